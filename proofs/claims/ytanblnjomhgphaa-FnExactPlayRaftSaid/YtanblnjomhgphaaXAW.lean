/- What the rows' arguments read as. -/
import Derived.Test.YtanblnjomhgphaaXAD
import Derived.Test.YtanblnjomhgphaaZFit
import Derived.Test.YtanblnjomhgphaaXAF
set_option linter.unusedVariables false
set_option maxRecDepth 100000
namespace Go.Proofs.Ytanblnjomhgphaa.X
open Go
theorem qo1:Dec T 3 cI inI:=Dec.i64 rfl rfl
def RaftStep.wf (x:RaftStep) : Prop:=inI x.Kind∧inI x.K∧inI x.To∧inI x.N
theorem zeb:Dec T 89 zb RaftStep.wf:=by
 intro cs h
 obtain ⟨ps,rfl,hl,hp⟩:=h.parts (t:=89) rfl rfl
 match ps,hl with
 | [q0,q1,q2,q3],_ =>
  obtain ⟨x0,rfl,w0⟩:=qo1 _ (hp 0 _ _ rfl rfl)
  obtain ⟨x1,rfl,w1⟩:=qo1 _ (hp 1 _ _ rfl rfl)
  obtain ⟨x2,rfl,w2⟩:=qo1 _ (hp 2 _ _ rfl rfl)
  obtain ⟨x3,rfl,w3⟩:=qo1 _ (hp 3 _ _ rfl rfl)
  exact ⟨⟨x0,x1,x2,x3⟩,rfl,w0,w1,w2,w3⟩
theorem zfk:Dec T 48 (cL zb) (wfL 32 RaftStep.wf):=Dec.slice rfl rfl rfl zeb
end Go.Proofs.Ytanblnjomhgphaa.X
