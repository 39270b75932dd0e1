/- What OrderFor answers. -/
import Derived.Test.YtddkoiapboeemaaXO1L15t
set_option linter.unusedVariables false
set_option linter.unusedSimpArgs false
namespace Go.Proofs.Ytddkoiapboeemaa.X
open Go

def qab (l:List Call) : List Int × Bool:=if good l=true then (match qa1 l with | some o=>(o,true) | none=>([],false)) else ([],false)
theorem qk5 (l:List Call) : (qab l).1.length≤l.length:=by
 unfold qab
 split
 ·cases hb:qa1 l with
  | some o=>exact Nat.le_of_eq (qa4 _ _ _ hb).1.1
  | none=>simp
 ·simp
theorem qjl {l:List Call}(hl:l.length≤1048576) : Ev (fun k=>qan k l) (qab l):=by
 refine Ev.eqv (F:=fun k=>(jm l).bind fun v1=>(if (!v1)=true then (some (([] : List Int),false)) else ((kn k l [] false).bind fun v5=>(if (decide ((v5.length:Int)≠(l.length:Int)))=true then (some ([],false)) else (some (v5,true)))))) ?_ (fun k=>rfl)
 refine Ev.bindp (GoodCalls_eq hl) ?_
 unfold qab
 rcases Bool.eq_false_or_eq_true (good l) with h | h
 ·rw [h]
  refine Ev.iteF rfl ?_
  refine Ev.bind (qlp h) (Ev.of ?_)
  have hlen:=qqh (R:=wt l) (n:=l.length) (qhz l)
  rw [if_pos rfl]
  unfold qa1
  cases hb:js l.length (z8 l) (wt l) l.length [] with
  | some o =>
   rw [hb] at hlen
   rw [if_neg]
   ·rfl
   ·simp only [Option.isSome_some,decide_eq_true_eq] at hlen
    simp only [Option.getD_some] at hlen
    simp [hlen]
  | none =>
   rw [hb] at hlen
   rw [if_pos]
   simp only [Option.isSome_none,decide_eq_false_iff_not] at hlen
   simpa using hlen
 ·rw [h]
  exact Ev.iteT rfl Ev.rfl
theorem qj2 {l:List Call}(hl:l.length≤1048576) : Ev (fun k=>qav k l) (qab l):=by
 refine Ev.eqv (F:=fun k=>(jv l).bind fun v1=>(if (!v1)=true then (some (([] : List Int),false)) else ((wb k l (fun a0 a1=>k6 a0 a1 l)).bind fun v5=>(some (v5.1,v5.2))))) ?_ (fun k=>rfl)
 refine Ev.bindp (a:=good l) (by rw [qb6]; exact GoodCalls_eq hl) ?_
 unfold qab
 rcases Bool.eq_false_or_eq_true (good l) with h | h
 ·rw [h]
  refine Ev.iteF rfl ?_
  refine Ev.bind (qk8 h) (Ev.of ?_)
  rw [if_pos rfl]
  cases qa1 l <;> rfl
 ·rw [h]
  exact Ev.iteT rfl Ev.rfl
end Go.Proofs.Ytddkoiapboeemaa.X
