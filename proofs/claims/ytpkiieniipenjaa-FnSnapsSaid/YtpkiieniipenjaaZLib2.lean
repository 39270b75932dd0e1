/- Plain facts on the laws' own walks: sizes, copies, comparisons, marks. -/
import Derived.Test.YtpkiieniipenjaaZLib
set_option linter.unusedVariables false
set_option linter.unusedSimpArgs false
namespace Go.Proofs.Ytpkiieniipenjaa.X
open Go
variable {α β σ ρ:Type}

theorem qkb {n:Nat}(h:n<4611686018427387904) : IntKind.wrap .i64 ((n:Int)+1)=((n+1:Nat) : Int):=by
 rw [kc (by omega) (by omega)]; rfl
def kd (f:α→Nat) : List α→Nat
 | []=>0
 | x::r=>f x+kd f r
def nnL (f:α→Nat)(l:List α) : Nat:=l.length+kd f l
theorem qxb {f:α→Nat} : ∀ {l:List α} {i:Nat} {x:α},l[i]? = some x→f x≤kd f l:=by
 intro l
 induction l with
 | nil=>intro i x h; simp at h
 | cons a r ih =>
  intro i x h
  cases i with
  | zero=>simp at h; subst h; simp only [kd]; omega
  | succ i=>have:=ih (i:=i) (x:=x) (by simpa using h); simp only [kd]; omega
theorem qo0 {f:α→Nat}{l:List α}{i:Nat}{x:α}(h:l[i]? = some x) : f x≤nnL f l:=by
 have:=qxb (f:=f) h
 unfold nnL; omega
theorem qoo {f:α→Nat}{l:List α} : l.length≤nnL f l:=by unfold nnL; omega
theorem Ev.to {F:Nat→Option α}{r r':α}(h:Ev F r)(e:r=r') : Ev F r':=e▸h

def qfg (M:α→Nat→α)(c:α→Nat) : List α→Nat→List α
 | [],_=>[]
 | x::r,n=>M x n::qfg M c r (n+c x)
theorem qoy {c f:α→Nat}{m:Nat}(h:∀ x,c x≤m*(1+f x)) : ∀ {l:List α},kd c l≤m*nnL f l:=by
 intro l
 induction l with
 | nil=>simp [kd]
 | cons a r ih =>
  have:=h a
  unfold nnL at ih ⊢
  simp only [kd,List.length_cons]
  rw [show r.length+1+(f a+kd f r)=(1+f a)+(r.length+kd f r) by omega,Nat.mul_add]
  omega
theorem qb8 {c:Nat}{l:List α} : kd (fun _=>c) l=c*l.length:=by
 induction l with
 | nil=>rfl
 | cons a r ih=>simp only [kd,ih,List.length_cons]; rw [Nat.mul_add]; omega
end Go.Proofs.Ytpkiieniipenjaa.X
