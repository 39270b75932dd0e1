/- What the rows' arguments read as. -/
import Derived.Test.YtefgfcalgjmhjaaXBD
import Derived.Test.YtefgfcalgjmhjaaZFit
import Derived.Test.YtefgfcalgjmhjaaXBF
set_option linter.unusedVariables false
set_option maxRecDepth 100000
namespace Go.Proofs.Ytefgfcalgjmhjaa.X
open Go
theorem dec3 : Dec T 3 cI inI := Dec.i64 rfl rfl
theorem dec22 : Dec T 22 (cL cI) (wfL 8 inI) := Dec.slice rfl rfl rfl dec3
def Row.wf (x : Row) : Prop := inI x.Epoch ∧ inI x.Value
theorem dec125 : Dec T 125 Row.cells Row.wf := by
  intro cs h
  obtain ⟨ps, rfl, hl, hp⟩ := h.parts (t := 125) rfl rfl
  match ps, hl with
  | [q0, q1], _ =>
    obtain ⟨x0, rfl, w0⟩ := dec3 _ (hp 0 _ _ rfl rfl)
    obtain ⟨x1, rfl, w1⟩ := dec3 _ (hp 1 _ _ rfl rfl)
    exact ⟨⟨x0, x1⟩, rfl, w0, w1⟩
theorem dec105 : Dec T 105 (cL Row.cells) (wfL 16 Row.wf) := Dec.slice rfl rfl rfl dec125
def Replica.wf (x : Replica) : Prop := (wfL 16 Row.wf) x.Log ∧ inI x.Epoch ∧ inI x.Known
theorem dec107 : Dec T 107 Replica.cells Replica.wf := by
  intro cs h
  obtain ⟨ps, rfl, hl, hp⟩ := h.parts (t := 107) rfl rfl
  match ps, hl with
  | [q0, q1, q2], _ =>
    obtain ⟨x0, rfl, w0⟩ := dec105 _ (hp 0 _ _ rfl rfl)
    obtain ⟨x1, rfl, w1⟩ := dec3 _ (hp 1 _ _ rfl rfl)
    obtain ⟨x2, rfl, w2⟩ := dec3 _ (hp 2 _ _ rfl rfl)
    exact ⟨⟨x0, x1, x2⟩, rfl, w0, w1, w2⟩
theorem dec23 : Dec T 23 (cL Replica.cells) (wfL 40 Replica.wf) := Dec.slice rfl rfl rfl dec107
def Group.wf (x : Group) : Prop := inI x.Epoch ∧ inI x.Leader ∧ (wfL 8 inI) x.InStep ∧ inI x.High ∧ (wfL 40 Replica.wf) x.Replicas
theorem dec25 : Dec T 25 Group.cells Group.wf := by
  intro cs h
  obtain ⟨ps, rfl, hl, hp⟩ := h.parts (t := 25) rfl rfl
  match ps, hl with
  | [q0, q1, q2, q3, q4], _ =>
    obtain ⟨x0, rfl, w0⟩ := dec3 _ (hp 0 _ _ rfl rfl)
    obtain ⟨x1, rfl, w1⟩ := dec3 _ (hp 1 _ _ rfl rfl)
    obtain ⟨x2, rfl, w2⟩ := dec22 _ (hp 2 _ _ rfl rfl)
    obtain ⟨x3, rfl, w3⟩ := dec3 _ (hp 3 _ _ rfl rfl)
    obtain ⟨x4, rfl, w4⟩ := dec23 _ (hp 4 _ _ rfl rfl)
    exact ⟨⟨x0, x1, x2, x3, x4⟩, rfl, w0, w1, w2, w3, w4⟩
def IsrStep.wf (x : IsrStep) : Prop := inI x.Kind ∧ inI x.K ∧ inI x.N
theorem dec72 : Dec T 72 IsrStep.cells IsrStep.wf := by
  intro cs h
  obtain ⟨ps, rfl, hl, hp⟩ := h.parts (t := 72) rfl rfl
  match ps, hl with
  | [q0, q1, q2], _ =>
    obtain ⟨x0, rfl, w0⟩ := dec3 _ (hp 0 _ _ rfl rfl)
    obtain ⟨x1, rfl, w1⟩ := dec3 _ (hp 1 _ _ rfl rfl)
    obtain ⟨x2, rfl, w2⟩ := dec3 _ (hp 2 _ _ rfl rfl)
    exact ⟨⟨x0, x1, x2⟩, rfl, w0, w1, w2⟩
end Go.Proofs.Ytefgfcalgjmhjaa.X
