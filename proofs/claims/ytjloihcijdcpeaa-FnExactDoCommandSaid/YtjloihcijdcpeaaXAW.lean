/- What the rows' arguments read as. -/
import Derived.Test.YtjloihcijdcpeaaXAD
import Derived.Test.YtjloihcijdcpeaaZFit
import Derived.Test.YtjloihcijdcpeaaXAF
set_option linter.unusedVariables false
set_option maxRecDepth 100000
namespace Go.Proofs.Ytjloihcijdcpeaa.X
open Go
theorem qey:Dec T 3 cI inI:=Dec.i64 rfl rfl
theorem q8y:Dec T 4 cB (fun _=>True):=Dec.bool rfl rfl
def Broker.wf (x:Broker) : Prop:=inI x.Epoch∧inI x.Left∧(fun _=>True) x.Fenced
theorem q6z:Dec T 116 qg Broker.wf:=by
 intro cs h
 obtain ⟨ps,rfl,hl,hp⟩:=h.parts (t:=116) rfl rfl
 match ps,hl with
 | [q0,q1,q2],_ =>
  obtain ⟨x0,rfl,w0⟩:=qey _ (hp 0 _ _ rfl rfl)
  obtain ⟨x1,rfl,w1⟩:=qey _ (hp 1 _ _ rfl rfl)
  obtain ⟨x2,rfl,w2⟩:=q8y _ (hp 2 _ _ rfl rfl)
  exact ⟨⟨x0,x1,x2⟩,rfl,w0,w1,w2⟩
theorem q67:Dec T 64 (cL qg) (wfL 24 Broker.wf):=Dec.slice rfl rfl rfl q6z
theorem qor:Dec T 30 (cL cI) (wfL 8 inI):=Dec.slice rfl rfl rfl qey
def Partition.wf (x:Partition) : Prop:=(wfL 8 inI) x.Homes∧(wfL 8 inI) x.InStep∧inI x.Leader∧inI x.Epoch∧inI x.Stamp
theorem q57:Dec T 114 qd Partition.wf:=by
 intro cs h
 obtain ⟨ps,rfl,hl,hp⟩:=h.parts (t:=114) rfl rfl
 match ps,hl with
 | [q0,q1,q2,q3,q4],_ =>
  obtain ⟨x0,rfl,w0⟩:=qor _ (hp 0 _ _ rfl rfl)
  obtain ⟨x1,rfl,w1⟩:=qor _ (hp 1 _ _ rfl rfl)
  obtain ⟨x2,rfl,w2⟩:=qey _ (hp 2 _ _ rfl rfl)
  obtain ⟨x3,rfl,w3⟩:=qey _ (hp 3 _ _ rfl rfl)
  obtain ⟨x4,rfl,w4⟩:=qey _ (hp 4 _ _ rfl rfl)
  exact ⟨⟨x0,x1,x2,x3,x4⟩,rfl,w0,w1,w2,w3,w4⟩
theorem q78:Dec T 65 (cL qd) (wfL 72 Partition.wf):=Dec.slice rfl rfl rfl q57
def Control.wf (x:Control) : Prop:=(wfL 24 Broker.wf) x.Brokers∧(wfL 72 Partition.wf) x.Parts∧inI x.Next
theorem q7f:Dec T 67 qlg Control.wf:=by
 intro cs h
 obtain ⟨ps,rfl,hl,hp⟩:=h.parts (t:=67) rfl rfl
 match ps,hl with
 | [q0,q1,q2],_ =>
  obtain ⟨x0,rfl,w0⟩:=q67 _ (hp 0 _ _ rfl rfl)
  obtain ⟨x1,rfl,w1⟩:=q78 _ (hp 1 _ _ rfl rfl)
  obtain ⟨x2,rfl,w2⟩:=qey _ (hp 2 _ _ rfl rfl)
  exact ⟨⟨x0,x1,x2⟩,rfl,w0,w1,w2⟩
def Command.wf (x:Command) : Prop:=inI x.Kind∧inI x.Broker∧inI x.Epoch∧inI x.Part∧inI x.Stamp∧(wfL 8 inI) x.InStep
theorem q7p:Dec T 68 qlf Command.wf:=by
 intro cs h
 obtain ⟨ps,rfl,hl,hp⟩:=h.parts (t:=68) rfl rfl
 match ps,hl with
 | [q0,q1,q2,q3,q4,q5],_ =>
  obtain ⟨x0,rfl,w0⟩:=qey _ (hp 0 _ _ rfl rfl)
  obtain ⟨x1,rfl,w1⟩:=qey _ (hp 1 _ _ rfl rfl)
  obtain ⟨x2,rfl,w2⟩:=qey _ (hp 2 _ _ rfl rfl)
  obtain ⟨x3,rfl,w3⟩:=qey _ (hp 3 _ _ rfl rfl)
  obtain ⟨x4,rfl,w4⟩:=qey _ (hp 4 _ _ rfl rfl)
  obtain ⟨x5,rfl,w5⟩:=qor _ (hp 5 _ _ rfl rfl)
  exact ⟨⟨x0,x1,x2,x3,x4,x5⟩,rfl,w0,w1,w2,w3,w4,w5⟩
end Go.Proofs.Ytjloihcijdcpeaa.X
