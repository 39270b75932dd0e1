/- What the rows' arguments read as. -/
import Derived.Test.YtefgfcalgjmhjaaXCD
import Derived.Test.YtefgfcalgjmhjaaZFit
import Derived.Test.YtefgfcalgjmhjaaXCF
set_option linter.unusedVariables false
set_option maxRecDepth 100000
namespace Go.Proofs.Ytefgfcalgjmhjaa.X
open Go
theorem dec3 : Dec T 3 cI inI := Dec.i64 rfl rfl
def IsrStep.wf (x : IsrStep) : Prop := inI x.Kind ∧ inI x.K ∧ inI x.N
theorem dec72 : Dec T 72 IsrStep.cells IsrStep.wf := by
  intro cs h
  obtain ⟨ps, rfl, hl, hp⟩ := h.parts (t := 72) rfl rfl
  match ps, hl with
  | [q0, q1, q2], _ =>
    obtain ⟨x0, rfl, w0⟩ := dec3 _ (hp 0 _ _ rfl rfl)
    obtain ⟨x1, rfl, w1⟩ := dec3 _ (hp 1 _ _ rfl rfl)
    obtain ⟨x2, rfl, w2⟩ := dec3 _ (hp 2 _ _ rfl rfl)
    exact ⟨⟨x0, x1, x2⟩, rfl, w0, w1, w2⟩
theorem dec55 : Dec T 55 (cL IsrStep.cells) (wfL 24 IsrStep.wf) := Dec.slice rfl rfl rfl dec72
end Go.Proofs.Ytefgfcalgjmhjaa.X
