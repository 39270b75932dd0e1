/- What the rows' arguments read as. -/
import Derived.Test.YtpddolihbnfahaaXAD
import Derived.Test.YtpddolihbnfahaaZFit
import Derived.Test.YtpddolihbnfahaaXAF
set_option linter.unusedVariables false
set_option maxRecDepth 100000
namespace Go.Proofs.Ytpddolihbnfahaa.X
open Go
theorem qy1:Dec T 3 cI inI:=Dec.i64 rfl rfl
theorem zcl:Dec T 44 (cL cI) (wfL 8 inI):=Dec.slice rfl rfl rfl qy1
theorem zbz:Dec T 23 (cL (cL cI)) (wfL 24 (wfL 8 inI)):=Dec.slice rfl rfl rfl zcl
def ElectStep.wf (x:ElectStep) : Prop:=inI x.Term∧inI x.Leader
theorem zbx:Dec T 79 ElectStep.cells ElectStep.wf:=by
 intro cs h
 obtain ⟨ps,rfl,hl,hp⟩:=h.parts (t:=79) rfl rfl
 match ps,hl with
 | [q0,q1],_ =>
  obtain ⟨x0,rfl,w0⟩:=qy1 _ (hp 0 _ _ rfl rfl)
  obtain ⟨x1,rfl,w1⟩:=qy1 _ (hp 1 _ _ rfl rfl)
  exact ⟨⟨x0,x1⟩,rfl,w0,w1⟩
theorem zcx:Dec T 63 (cL ElectStep.cells) (wfL 16 ElectStep.wf):=Dec.slice rfl rfl rfl zbx
end Go.Proofs.Ytpddolihbnfahaa.X
