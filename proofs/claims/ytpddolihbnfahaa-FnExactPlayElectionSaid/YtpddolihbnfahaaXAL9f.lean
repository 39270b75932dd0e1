/- PlayElection: its core. -/
import Derived.Test.YtpddolihbnfahaaXAL9n
import Derived.Test.YtpddolihbnfahaaXAW
set_option linter.unusedVariables false
set_option linter.unusedSimpArgs false
namespace Go.Proofs.Ytpddolihbnfahaa.X
open Go

theorem PlayElection_core (v_0:List (List Int))(v_1:List ElectStep)(w0:(wfL 24 (wfL 8 inI)) v_0)(w1:(wfL 16 ElectStep.wf) v_1)(b0:nnL IntR.nn v_0≤1048576)(b1:v_1.length≤1048576) : ∃ (r:Election × List Bool × Bool),Ev (fun k=>k9 k v_0 v_1) r∧Ev (fun k=>ku k v_0 v_1) r∧r.1.nn≤1048576∧r.2.1.length≤1048576:=by
 rcases PlayElection_all (v_1:=v_1) b0 with ⟨ho,h1,h2,hl,e1,e2⟩ | ⟨e1,e2⟩
 ·have hg:=qnn (l:=v_1) (d:=[]) (qib ho h1 h2 hl)
  refine ⟨_,e1,e2,hg.1.fit.nn,?_⟩
  have h3:=hg.2
  have h4:([] : List Bool).length=0:=rfl
  show (qbl (yj v_0) v_1 []).2.length≤1048576
  omega
 ·exact ⟨_,e1,e2,by decide,by decide⟩
end Go.Proofs.Ytpddolihbnfahaa.X
