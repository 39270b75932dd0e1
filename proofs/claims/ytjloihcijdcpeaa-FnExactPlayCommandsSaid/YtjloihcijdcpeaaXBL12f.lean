/- PlayCommands: its core. -/
import Derived.Test.YtjloihcijdcpeaaXBL12v
import Derived.Test.YtjloihcijdcpeaaXBW
set_option linter.unusedVariables false
set_option linter.unusedSimpArgs false
namespace Go.Proofs.Ytjloihcijdcpeaa.X
open Go

theorem PlayCommands_core (v_0:Int)(v_1:List Command)(w0:inI v_0)(w1:(wfL 64 Command.wf) v_1)(b0:nnL Command.nn v_1≤1048576) : ∃ (r:Control × List Int × Bool),Ev (fun k=>yu k v_0 v_1) r∧Ev (fun k=>k9 v_0 v_1) r∧r.1.nn≤1048576∧r.2.1.length≤1048576:=by
 rcases PlayCommands_all (v_0:=v_0) (v_1:=v_1) b0 with ⟨n,rfl,h1,h2,hl,ho,e1,e2⟩ | ⟨e1,e2⟩
 ·obtain ⟨hg,hgn⟩:=qkx h1 h2
  have hr:=qss (l:=v_1) (d:=[]) hg (by rw [hgn]; exact ho)
  refine ⟨_,e1,e2,hr.1.nn,?_⟩
  have h3:=hr.2.2
  have h4:([] : List Int).length=0:=rfl
  show (qcl (xg n) v_1 []).2.length≤1048576
  omega
 ·exact ⟨_,e1,e2,by decide,by decide⟩
end Go.Proofs.Ytjloihcijdcpeaa.X
