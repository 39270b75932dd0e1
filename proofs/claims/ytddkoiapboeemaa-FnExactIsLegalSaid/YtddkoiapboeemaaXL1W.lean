/- What the rows' arguments read as. -/
import Derived.Test.YtddkoiapboeemaaXL1D
import Derived.Test.YtddkoiapboeemaaZFit
import Derived.Test.YtddkoiapboeemaaXL1F
set_option linter.unusedVariables false
set_option maxRecDepth 100000
namespace Go.Proofs.Ytddkoiapboeemaa.X
open Go
theorem dec3 : Dec T 3 cI inI := Dec.i64 rfl rfl
theorem dec4 : Dec T 4 cB (fun _ => True) := Dec.bool rfl rfl
def Call.wf (x : Call) : Prop := inI x.Client ∧ inI x.Object ∧ (fun _ => True) x.Write ∧ inI x.Value ∧ inI x.Begin ∧ inI x.End
theorem dec57 : Dec T 57 Call.cells Call.wf := by
  intro cs h
  obtain ⟨ps, rfl, hl, hp⟩ := h.parts (t := 57) rfl rfl
  match ps, hl with
  | [q0, q1, q2, q3, q4, q5], _ =>
    obtain ⟨x0, rfl, w0⟩ := dec3 _ (hp 0 _ _ rfl rfl)
    obtain ⟨x1, rfl, w1⟩ := dec3 _ (hp 1 _ _ rfl rfl)
    obtain ⟨x2, rfl, w2⟩ := dec4 _ (hp 2 _ _ rfl rfl)
    obtain ⟨x3, rfl, w3⟩ := dec3 _ (hp 3 _ _ rfl rfl)
    obtain ⟨x4, rfl, w4⟩ := dec3 _ (hp 4 _ _ rfl rfl)
    obtain ⟨x5, rfl, w5⟩ := dec3 _ (hp 5 _ _ rfl rfl)
    exact ⟨⟨x0, x1, x2, x3, x4, x5⟩, rfl, w0, w1, w2, w3, w4, w5⟩
theorem dec22 : Dec T 22 (cL Call.cells) (wfL 48 Call.wf) := Dec.slice rfl rfl rfl dec57
theorem dec34 : Dec T 34 (cL cI) (wfL 8 inI) := Dec.slice rfl rfl rfl dec3
end Go.Proofs.Ytddkoiapboeemaa.X
