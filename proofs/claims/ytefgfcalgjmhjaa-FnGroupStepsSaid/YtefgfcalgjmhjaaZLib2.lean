/- Plain facts on the laws' own walks: sizes, copies, comparisons, marks. -/
import Derived.Test.YtefgfcalgjmhjaaZLib
set_option linter.unusedVariables false
set_option linter.unusedSimpArgs false
namespace Go.Proofs.Ytefgfcalgjmhjaa.X
open Go
variable {α β σ ρ:Type}

theorem qky {n:Nat}(h:n<4611686018427387904) : IntKind.wrap .i64 ((n:Int)+1)=((n+1:Nat) : Int):=by
 rw [ko (by omega) (by omega)]; rfl
def y9 (f:α→Nat) : List α→Nat
 | []=>0
 | x::r=>f x+y9 f r
def nnL (f:α→Nat)(l:List α) : Nat:=l.length+y9 f l
theorem qvr {f:α→Nat} : ∀ {l:List α} {i:Nat} {x:α},l[i]? = some x→f x≤y9 f l:=by
 intro l
 induction l with
 | nil=>intro i x h; simp at h
 | cons a r ih =>
  intro i x h
  cases i with
  | zero=>simp at h; subst h; simp only [y9]; omega
  | succ i=>have:=ih (i:=i) (x:=x) (by simpa using h); simp only [y9]; omega
theorem q32 {f:α→Nat}{l:List α}{i:Nat}{x:α}(h:l[i]? = some x) : f x≤nnL f l:=by
 have:=qvr (f:=f) h
 unfold nnL; omega
theorem q3t {f:α→Nat}{l:List α} : l.length≤nnL f l:=by unfold nnL; omega
theorem qsf {b:Nat}{n:Nat}{z:α}(h:n*b≤140737488355328) : mkN b (n:Int) z=some (List.replicate n z):=by
 unfold mkN
 rw [if_pos ⟨by omega,by rw [←Int.natCast_mul]; exact Int.ofNat_le.2 h⟩,Int.toNat_natCast]

def qjb (M:α→Nat→α)(c:α→Nat) : List α→Nat→List α
 | [],_=>[]
 | x::r,n=>M x n::qjb M c r (n+c x)
theorem q3q {c f:α→Nat}{m:Nat}(h:∀ x,c x≤m*(1+f x)) : ∀ {l:List α},y9 c l≤m*nnL f l:=by
 intro l
 induction l with
 | nil=>simp [y9]
 | cons a r ih =>
  have:=h a
  unfold nnL at ih ⊢
  simp only [y9,List.length_cons]
  rw [show r.length+1+(f a+y9 f r)=(1+f a)+(r.length+y9 f r) by omega,Nat.mul_add]
  omega
theorem qho {c:Nat}{l:List α} : y9 (fun _=>c) l=c*l.length:=by
 induction l with
 | nil=>rfl
 | cons a r ih=>simp only [y9,ih,List.length_cons]; rw [Nat.mul_add]; omega
end Go.Proofs.Ytefgfcalgjmhjaa.X
