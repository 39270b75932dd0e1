/- What the rows' arguments read as. -/
import Derived.Test.YtohofoampalhoaaXMD
import Derived.Test.YtohofoampalhoaaZFit
import Derived.Test.YtohofoampalhoaaXMF
set_option linter.unusedVariables false
set_option maxRecDepth 100000
namespace Go.Proofs.Ytohofoampalhoaa.X
open Go
theorem qpu:Dec T 3 cI inI:=Dec.i64 rfl rfl
def ClusterStep.wf (x:ClusterStep) : Prop:=inI x.Kind∧inI x.K∧inI x.To∧inI x.N
theorem zcu:Dec T 60 za ClusterStep.wf:=by
 intro cs h
 obtain ⟨ps,rfl,hl,hp⟩:=h.parts (t:=60) rfl rfl
 match ps,hl with
 | [q0,q1,q2,q3],_ =>
  obtain ⟨x0,rfl,w0⟩:=qpu _ (hp 0 _ _ rfl rfl)
  obtain ⟨x1,rfl,w1⟩:=qpu _ (hp 1 _ _ rfl rfl)
  obtain ⟨x2,rfl,w2⟩:=qpu _ (hp 2 _ _ rfl rfl)
  obtain ⟨x3,rfl,w3⟩:=qpu _ (hp 3 _ _ rfl rfl)
  exact ⟨⟨x0,x1,x2,x3⟩,rfl,w0,w1,w2,w3⟩
theorem zdb:Dec T 47 (cL za) (wfL 32 ClusterStep.wf):=Dec.slice rfl rfl rfl zcu
end Go.Proofs.Ytohofoampalhoaa.X
