/- What the rows' arguments read as. -/
import Derived.Test.YtpkiieniipenjaaXAD
import Derived.Test.YtpkiieniipenjaaXFit
import Derived.Test.YtpkiieniipenjaaXAF
set_option linter.unusedVariables false
set_option maxRecDepth 100000
namespace Go.Proofs.Ytpkiieniipenjaa.X
open Go
theorem dec3 : Dec T 3 cI inI := Dec.i64 rfl rfl
def SnapStep.wf (x : SnapStep) : Prop := inI x.Kind ∧ inI x.K ∧ inI x.N
theorem dec84 : Dec T 84 SnapStep.cells SnapStep.wf := by
  intro cs h
  obtain ⟨ps, rfl, hl, hp⟩ := h.parts (t := 84) rfl rfl
  match ps, hl with
  | [q0, q1, q2], _ =>
    obtain ⟨x0, rfl, w0⟩ := dec3 _ (hp 0 _ _ rfl rfl)
    obtain ⟨x1, rfl, w1⟩ := dec3 _ (hp 1 _ _ rfl rfl)
    obtain ⟨x2, rfl, w2⟩ := dec3 _ (hp 2 _ _ rfl rfl)
    exact ⟨⟨x0, x1, x2⟩, rfl, w0, w1, w2⟩
theorem dec42 : Dec T 42 (cL SnapStep.cells) (wfL 24 SnapStep.wf) := Dec.slice rfl rfl rfl dec84
end Go.Proofs.Ytpkiieniipenjaa.X
