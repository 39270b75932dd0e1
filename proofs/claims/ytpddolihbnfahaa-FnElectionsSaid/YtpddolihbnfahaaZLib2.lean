/- Plain facts on the laws' own walks: sizes, copies, comparisons, marks. -/
import Derived.Test.YtpddolihbnfahaaZLib
set_option linter.unusedVariables false
set_option linter.unusedSimpArgs false
namespace Go.Proofs.Ytpddolihbnfahaa.X
open Go
variable {α β σ ρ:Type}

theorem qvx {n:Nat}(h:n<4611686018427387904) : IntKind.wrap .i64 ((n:Int)+1)=((n+1:Nat) : Int):=by
 rw [ki (by omega) (by omega)]; rfl
def kx (f:α→Nat) : List α→Nat
 | []=>0
 | x::r=>f x+kx f r
def nnL (f:α→Nat)(l:List α) : Nat:=l.length+kx f l
theorem qwn {f:α→Nat} : ∀ {l:List α} {i:Nat} {x:α},l[i]? = some x→f x≤kx f l:=by
 intro l
 induction l with
 | nil=>intro i x h; simp at h
 | cons a r ih =>
  intro i x h
  cases i with
  | zero=>simp at h; subst h; simp only [kx]; omega
  | succ i=>have:=ih (i:=i) (x:=x) (by simpa using h); simp only [kx]; omega
theorem qki {f:α→Nat}{l:List α}{i:Nat}{x:α}(h:l[i]? = some x) : f x≤nnL f l:=by
 have:=qwn (f:=f) h
 unfold nnL; omega
theorem qj9 {f:α→Nat}{l:List α} : l.length≤nnL f l:=by unfold nnL; omega
def qe9 (M:α→Nat→α)(c:α→Nat) : List α→Nat→List α
 | [],_=>[]
 | x::r,n=>M x n::qe9 M c r (n+c x)
theorem q20 {c f:α→Nat}{m:Nat}(h:∀ x,c x≤m*(1+f x)) : ∀ {l:List α},kx c l≤m*nnL f l:=by
 intro l
 induction l with
 | nil=>simp [kx]
 | cons a r ih =>
  have:=h a
  unfold nnL at ih ⊢
  simp only [kx,List.length_cons]
  rw [show r.length+1+(f a+kx f r)=(1+f a)+(r.length+kx f r) by omega,Nat.mul_add]
  omega
theorem qbp {c:Nat}{l:List α} : kx (fun _=>c) l=c*l.length:=by
 induction l with
 | nil=>rfl
 | cons a r ih=>simp only [kx,ih,List.length_cons]; rw [Nat.mul_add]; omega
end Go.Proofs.Ytpddolihbnfahaa.X
