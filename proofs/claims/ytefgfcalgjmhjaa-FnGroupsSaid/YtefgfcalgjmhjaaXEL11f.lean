/- PlayGroup: one answer. -/
import Derived.Test.YtefgfcalgjmhjaaXEL11n
set_option linter.unusedVariables false
set_option linter.unusedSimpArgs false
namespace Go.Proofs.Ytefgfcalgjmhjaa.X
open Go

theorem PlayGroup_all (v_0:Int)(v_1:List IsrStep) : (∃ n:Nat,v_0=n∧2≤n∧n≤4∧v_1.length≤100∧Ev (fun k=>yh k v_0 v_1) ((yl (k7 n) v_1 []).1,(yl (k7 n) v_1 []).2,true)∧Ev (fun k=>yg k v_0 v_1) ((yl (k7 n) v_1 []).1,(yl (k7 n) v_1 []).2,true))∨(Ev (fun k=>yh k v_0 v_1) (⟨0,0,[],0,[]⟩,[],false)∧Ev (fun k=>yg k v_0 v_1) (⟨0,0,[],0,[]⟩,[],false)):=by
 rcases qks (n:=v_0) with ⟨m,rfl,⟨h1,h2⟩,e⟩ | ⟨hn,e⟩
 ·by_cases hl:v_1.length≤100
  ·exact .inl ⟨m,rfl,h1,h2,hl,qkb h1 h2 e hl,qg1 h1 h2 hl⟩
  ·exact .inr ⟨qg7 e (.inr (by omega)),qgr (.inr (by omega))⟩
 ·exact .inr ⟨qg7 e (.inl rfl),qgr (.inl hn)⟩
end Go.Proofs.Ytefgfcalgjmhjaa.X
