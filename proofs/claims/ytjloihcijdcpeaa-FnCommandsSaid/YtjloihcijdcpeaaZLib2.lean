/- Plain facts on the laws' own walks: sizes, copies, comparisons, marks. -/
import Derived.Test.YtjloihcijdcpeaaZLib
set_option linter.unusedVariables false
set_option linter.unusedSimpArgs false
namespace Go.Proofs.Ytjloihcijdcpeaa.X
open Go
variable {α β σ ρ:Type}

theorem zdq {n:Nat}(h:n<4611686018427387904) : IntKind.wrap .i64 ((n:Int)+1)=((n+1:Nat) : Int):=by
 rw [kr (by omega) (by omega)]; rfl
def qdw (f:α→Nat) : List α→Nat
 | []=>0
 | x::r=>f x+qdw f r
def nnL (f:α→Nat)(l:List α) : Nat:=l.length+qdw f l
theorem qx9 {f:α→Nat} : ∀ {l:List α} {i:Nat} {x:α},l[i]? = some x→f x≤qdw f l:=by
 intro l
 induction l with
 | nil=>intro i x h; simp at h
 | cons a r ih =>
  intro i x h
  cases i with
  | zero=>simp at h; subst h; simp only [qdw]; omega
  | succ i=>have:=ih (i:=i) (x:=x) (by simpa using h); simp only [qdw]; omega
theorem qox {f:α→Nat}{l:List α}{i:Nat}{x:α}(h:l[i]? = some x) : f x≤nnL f l:=by
 have:=qx9 (f:=f) h
 unfold nnL; omega
theorem q8s {f:α→Nat}{l:List α} : l.length≤nnL f l:=by unfold nnL; omega
end Go.Proofs.Ytjloihcijdcpeaa.X
