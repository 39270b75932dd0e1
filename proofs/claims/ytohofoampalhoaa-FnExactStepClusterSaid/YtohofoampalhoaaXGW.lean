/- What the rows' arguments read as. -/
import Derived.Test.YtohofoampalhoaaXGD
import Derived.Test.YtohofoampalhoaaZFit
import Derived.Test.YtohofoampalhoaaXGF
set_option linter.unusedVariables false
set_option maxRecDepth 100000
namespace Go.Proofs.Ytohofoampalhoaa.X
open Go
theorem qhq:Dec T 3 cI inI:=Dec.i64 rfl rfl
theorem q0a:Dec T 22 (cL cI) (wfL 8 inI):=Dec.slice rfl rfl rfl qhq
def View.wf (x:View) : Prop:=inI x.Epoch∧inI x.Leader∧(wfL 8 inI) x.InStep
theorem q0h:Dec T 34 qsi View.wf:=by
 intro cs h
 obtain ⟨ps,rfl,hl,hp⟩:=h.parts (t:=34) rfl rfl
 match ps,hl with
 | [q0,q1,q2],_ =>
  obtain ⟨x0,rfl,w0⟩:=qhq _ (hp 0 _ _ rfl rfl)
  obtain ⟨x1,rfl,w1⟩:=qhq _ (hp 1 _ _ rfl rfl)
  obtain ⟨x2,rfl,w2⟩:=q0a _ (hp 2 _ _ rfl rfl)
  exact ⟨⟨x0,x1,x2⟩,rfl,w0,w1,w2⟩
def Row.wf (x:Row) : Prop:=inI x.Epoch∧inI x.Value
theorem q9s:Dec T 101 qg Row.wf:=by
 intro cs h
 obtain ⟨ps,rfl,hl,hp⟩:=h.parts (t:=101) rfl rfl
 match ps,hl with
 | [q0,q1],_ =>
  obtain ⟨x0,rfl,w0⟩:=qhq _ (hp 0 _ _ rfl rfl)
  obtain ⟨x1,rfl,w1⟩:=qhq _ (hp 1 _ _ rfl rfl)
  exact ⟨⟨x0,x1⟩,rfl,w0,w1⟩
theorem q4a:Dec T 36 (cL qg) (wfL 16 Row.wf):=Dec.slice rfl rfl rfl q9s
def Node.wf (x:Node) : Prop:=View.wf x.View∧(wfL 16 Row.wf) x.Log∧(wfL 8 inI) x.Known∧inI x.Told
theorem zb9:Dec T 95 qq Node.wf:=by
 intro cs h
 obtain ⟨ps,rfl,hl,hp⟩:=h.parts (t:=95) rfl rfl
 match ps,hl with
 | [q0,q1,q2,q3],_ =>
  obtain ⟨x0,rfl,w0⟩:=q0h _ (hp 0 _ _ rfl rfl)
  obtain ⟨x1,rfl,w1⟩:=q4a _ (hp 1 _ _ rfl rfl)
  obtain ⟨x2,rfl,w2⟩:=q0a _ (hp 2 _ _ rfl rfl)
  obtain ⟨x3,rfl,w3⟩:=qhq _ (hp 3 _ _ rfl rfl)
  exact ⟨⟨x0,x1,x2,x3⟩,rfl,w0,w1,w2,w3⟩
theorem zbt:Dec T 35 (cL qq) (wfL 96 Node.wf):=Dec.slice rfl rfl rfl zb9
def Cluster.wf (x:Cluster) : Prop:=View.wf x.Truth∧(wfL 96 Node.wf) x.Nodes∧(wfL 16 Row.wf) x.Acked
theorem zcp:Dec T 38 qoa Cluster.wf:=by
 intro cs h
 obtain ⟨ps,rfl,hl,hp⟩:=h.parts (t:=38) rfl rfl
 match ps,hl with
 | [q0,q1,q2],_ =>
  obtain ⟨x0,rfl,w0⟩:=q0h _ (hp 0 _ _ rfl rfl)
  obtain ⟨x1,rfl,w1⟩:=zbt _ (hp 1 _ _ rfl rfl)
  obtain ⟨x2,rfl,w2⟩:=q4a _ (hp 2 _ _ rfl rfl)
  exact ⟨⟨x0,x1,x2⟩,rfl,w0,w1,w2⟩
def ClusterStep.wf (x:ClusterStep) : Prop:=inI x.Kind∧inI x.K∧inI x.To∧inI x.N
theorem zbl:Dec T 60 qkt ClusterStep.wf:=by
 intro cs h
 obtain ⟨ps,rfl,hl,hp⟩:=h.parts (t:=60) rfl rfl
 match ps,hl with
 | [q0,q1,q2,q3],_ =>
  obtain ⟨x0,rfl,w0⟩:=qhq _ (hp 0 _ _ rfl rfl)
  obtain ⟨x1,rfl,w1⟩:=qhq _ (hp 1 _ _ rfl rfl)
  obtain ⟨x2,rfl,w2⟩:=qhq _ (hp 2 _ _ rfl rfl)
  obtain ⟨x3,rfl,w3⟩:=qhq _ (hp 3 _ _ rfl rfl)
  exact ⟨⟨x0,x1,x2,x3⟩,rfl,w0,w1,w2,w3⟩
end Go.Proofs.Ytohofoampalhoaa.X
