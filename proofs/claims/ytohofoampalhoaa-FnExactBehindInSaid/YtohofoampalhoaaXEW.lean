/- What the rows' arguments read as. -/
import Derived.Test.YtohofoampalhoaaXED
import Derived.Test.YtohofoampalhoaaXFit
import Derived.Test.YtohofoampalhoaaXEF
set_option linter.unusedVariables false
set_option maxRecDepth 100000
namespace Go.Proofs.Ytohofoampalhoaa.X
open Go
theorem dec3 : Dec T 3 cI inI := Dec.i64 rfl rfl
theorem dec22 : Dec T 22 (cL cI) (wfL 8 inI) := Dec.slice rfl rfl rfl dec3
def View.wf (x : View) : Prop := inI x.Epoch ∧ inI x.Leader ∧ (wfL 8 inI) x.InStep
theorem dec34 : Dec T 34 View.cells View.wf := by
  intro cs h
  obtain ⟨ps, rfl, hl, hp⟩ := h.parts (t := 34) rfl rfl
  match ps, hl with
  | [q0, q1, q2], _ =>
    obtain ⟨x0, rfl, w0⟩ := dec3 _ (hp 0 _ _ rfl rfl)
    obtain ⟨x1, rfl, w1⟩ := dec3 _ (hp 1 _ _ rfl rfl)
    obtain ⟨x2, rfl, w2⟩ := dec22 _ (hp 2 _ _ rfl rfl)
    exact ⟨⟨x0, x1, x2⟩, rfl, w0, w1, w2⟩
def Row.wf (x : Row) : Prop := inI x.Epoch ∧ inI x.Value
theorem dec101 : Dec T 101 Row.cells Row.wf := by
  intro cs h
  obtain ⟨ps, rfl, hl, hp⟩ := h.parts (t := 101) rfl rfl
  match ps, hl with
  | [q0, q1], _ =>
    obtain ⟨x0, rfl, w0⟩ := dec3 _ (hp 0 _ _ rfl rfl)
    obtain ⟨x1, rfl, w1⟩ := dec3 _ (hp 1 _ _ rfl rfl)
    exact ⟨⟨x0, x1⟩, rfl, w0, w1⟩
theorem dec36 : Dec T 36 (cL Row.cells) (wfL 16 Row.wf) := Dec.slice rfl rfl rfl dec101
def Node.wf (x : Node) : Prop := View.wf x.View ∧ (wfL 16 Row.wf) x.Log ∧ (wfL 8 inI) x.Known ∧ inI x.Told
theorem dec95 : Dec T 95 Node.cells Node.wf := by
  intro cs h
  obtain ⟨ps, rfl, hl, hp⟩ := h.parts (t := 95) rfl rfl
  match ps, hl with
  | [q0, q1, q2, q3], _ =>
    obtain ⟨x0, rfl, w0⟩ := dec34 _ (hp 0 _ _ rfl rfl)
    obtain ⟨x1, rfl, w1⟩ := dec36 _ (hp 1 _ _ rfl rfl)
    obtain ⟨x2, rfl, w2⟩ := dec22 _ (hp 2 _ _ rfl rfl)
    obtain ⟨x3, rfl, w3⟩ := dec3 _ (hp 3 _ _ rfl rfl)
    exact ⟨⟨x0, x1, x2, x3⟩, rfl, w0, w1, w2, w3⟩
theorem dec35 : Dec T 35 (cL Node.cells) (wfL 96 Node.wf) := Dec.slice rfl rfl rfl dec95
def Cluster.wf (x : Cluster) : Prop := View.wf x.Truth ∧ (wfL 96 Node.wf) x.Nodes ∧ (wfL 16 Row.wf) x.Acked
theorem dec38 : Dec T 38 Cluster.cells Cluster.wf := by
  intro cs h
  obtain ⟨ps, rfl, hl, hp⟩ := h.parts (t := 38) rfl rfl
  match ps, hl with
  | [q0, q1, q2], _ =>
    obtain ⟨x0, rfl, w0⟩ := dec34 _ (hp 0 _ _ rfl rfl)
    obtain ⟨x1, rfl, w1⟩ := dec35 _ (hp 1 _ _ rfl rfl)
    obtain ⟨x2, rfl, w2⟩ := dec36 _ (hp 2 _ _ rfl rfl)
    exact ⟨⟨x0, x1, x2⟩, rfl, w0, w1, w2⟩
end Go.Proofs.Ytohofoampalhoaa.X
