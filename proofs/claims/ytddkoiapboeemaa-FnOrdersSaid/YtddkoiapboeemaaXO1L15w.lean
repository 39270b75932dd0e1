/- Whole orders as lists of calls. -/
import Derived.Test.YtddkoiapboeemaaXO1L15v
set_option linter.unusedVariables false
set_option linter.unusedSimpArgs false
namespace Go.Proofs.Ytddkoiapboeemaa.X
open Go

theorem qfv {n:Nat}{leg:List Int→Bool}{R:Int→Int→Bool} : ∀ (m:Nat) (p q:List Int),p.length+m=n→Full n leg R (p++q)→(js n leg R m p).isSome=true:=by
 intro m
 induction m with
 | zero =>
  intro p q hp hf
  have:q=[]:=by
   have:=hf.1
   rw [List.length_append] at this
   exact List.eq_nil_of_length_eq_zero (by omega)
  subst this
  rw [List.append_nil] at hf
  simp only [js]
  rw [if_pos hf]
  rfl
 | succ m ih =>
  intro p q hp hf
  cases q with
  | nil =>
   have:=hf.1
   rw [List.append_nil] at this
   omega
  | cons i q =>
   have hi:=hf.2.2.1 i (by simp)
   simp only [js]
   rw [List.findSome?_isSome_iff]
   refine ⟨i.toNat,by rw [List.mem_range'_1]; omega,?_⟩
   have e:((i.toNat:Nat) : Int)=i:=by omega
   rw [e]
   exact ih (p++[i]) q (by rw [List.length_append]; simp; omega) (by rw [List.append_assoc]; exact hf)
end Go.Proofs.Ytddkoiapboeemaa.X
