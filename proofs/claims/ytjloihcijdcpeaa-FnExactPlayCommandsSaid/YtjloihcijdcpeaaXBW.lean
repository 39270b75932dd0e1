/- What the rows' arguments read as. -/
import Derived.Test.YtjloihcijdcpeaaXBD
import Derived.Test.YtjloihcijdcpeaaZFit
import Derived.Test.YtjloihcijdcpeaaXBF
set_option linter.unusedVariables false
set_option maxRecDepth 100000
namespace Go.Proofs.Ytjloihcijdcpeaa.X
open Go
theorem qi5:Dec T 3 cI inI:=Dec.i64 rfl rfl
theorem q7o:Dec T 30 (cL cI) (wfL 8 inI):=Dec.slice rfl rfl rfl qi5
def Command.wf (x:Command) : Prop:=inI x.Kind∧inI x.Broker∧inI x.Epoch∧inI x.Part∧inI x.Stamp∧(wfL 8 inI) x.InStep
theorem q7y:Dec T 68 zh Command.wf:=by
 intro cs h
 obtain ⟨ps,rfl,hl,hp⟩:=h.parts (t:=68) rfl rfl
 match ps,hl with
 | [q0,q1,q2,q3,q4,q5],_ =>
  obtain ⟨x0,rfl,w0⟩:=qi5 _ (hp 0 _ _ rfl rfl)
  obtain ⟨x1,rfl,w1⟩:=qi5 _ (hp 1 _ _ rfl rfl)
  obtain ⟨x2,rfl,w2⟩:=qi5 _ (hp 2 _ _ rfl rfl)
  obtain ⟨x3,rfl,w3⟩:=qi5 _ (hp 3 _ _ rfl rfl)
  obtain ⟨x4,rfl,w4⟩:=qi5 _ (hp 4 _ _ rfl rfl)
  obtain ⟨x5,rfl,w5⟩:=q7o _ (hp 5 _ _ rfl rfl)
  exact ⟨⟨x0,x1,x2,x3,x4,x5⟩,rfl,w0,w1,w2,w3,w4,w5⟩
theorem q7p:Dec T 56 (cL zh) (wfL 64 Command.wf):=Dec.slice rfl rfl rfl q7y
end Go.Proofs.Ytjloihcijdcpeaa.X
