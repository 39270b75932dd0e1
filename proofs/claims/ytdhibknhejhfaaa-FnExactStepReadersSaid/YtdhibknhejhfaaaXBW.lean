/- What the rows' arguments read as. -/
import Derived.Test.YtdhibknhejhfaaaXBD
import Derived.Test.YtdhibknhejhfaaaXFit
import Derived.Test.YtdhibknhejhfaaaXBF
set_option linter.unusedVariables false
set_option maxRecDepth 100000
namespace Go.Proofs.Ytdhibknhejhfaaa.X
open Go
theorem dec3 : Dec T 3 cI inI := Dec.i64 rfl rfl
theorem dec4 : Dec T 4 cB (fun _ => True) := Dec.bool rfl rfl
theorem dec23 : Dec T 23 (cL cI) (wfL 8 inI) := Dec.slice rfl rfl rfl dec3
def Reader.wf (x : Reader) : Prop := (fun _ => True) x.In ∧ inI x.Generation ∧ (wfL 8 inI) x.Share ∧ (wfL 8 inI) x.Read
theorem dec106 : Dec T 106 Reader.cells Reader.wf := by
  intro cs h
  obtain ⟨ps, rfl, hl, hp⟩ := h.parts (t := 106) rfl rfl
  match ps, hl with
  | [q0, q1, q2, q3], _ =>
    obtain ⟨x0, rfl, w0⟩ := dec4 _ (hp 0 _ _ rfl rfl)
    obtain ⟨x1, rfl, w1⟩ := dec3 _ (hp 1 _ _ rfl rfl)
    obtain ⟨x2, rfl, w2⟩ := dec23 _ (hp 2 _ _ rfl rfl)
    obtain ⟨x3, rfl, w3⟩ := dec23 _ (hp 3 _ _ rfl rfl)
    exact ⟨⟨x0, x1, x2, x3⟩, rfl, w0, w1, w2, w3⟩
theorem dec55 : Dec T 55 (cL Reader.cells) (wfL 64 Reader.wf) := Dec.slice rfl rfl rfl dec106
def Readers_.wf (x : Readers_) : Prop := inI x.Generation ∧ (wfL 64 Reader.wf) x.Readers ∧ (wfL 8 inI) x.Committed ∧ (wfL 8 inI) x.Ends
theorem dec57 : Dec T 57 Readers_.cells Readers_.wf := by
  intro cs h
  obtain ⟨ps, rfl, hl, hp⟩ := h.parts (t := 57) rfl rfl
  match ps, hl with
  | [q0, q1, q2, q3], _ =>
    obtain ⟨x0, rfl, w0⟩ := dec3 _ (hp 0 _ _ rfl rfl)
    obtain ⟨x1, rfl, w1⟩ := dec55 _ (hp 1 _ _ rfl rfl)
    obtain ⟨x2, rfl, w2⟩ := dec23 _ (hp 2 _ _ rfl rfl)
    obtain ⟨x3, rfl, w3⟩ := dec23 _ (hp 3 _ _ rfl rfl)
    exact ⟨⟨x0, x1, x2, x3⟩, rfl, w0, w1, w2, w3⟩
def GroupStep.wf (x : GroupStep) : Prop := inI x.Kind ∧ inI x.K ∧ inI x.Part ∧ inI x.N
theorem dec59 : Dec T 59 GroupStep.cells GroupStep.wf := by
  intro cs h
  obtain ⟨ps, rfl, hl, hp⟩ := h.parts (t := 59) rfl rfl
  match ps, hl with
  | [q0, q1, q2, q3], _ =>
    obtain ⟨x0, rfl, w0⟩ := dec3 _ (hp 0 _ _ rfl rfl)
    obtain ⟨x1, rfl, w1⟩ := dec3 _ (hp 1 _ _ rfl rfl)
    obtain ⟨x2, rfl, w2⟩ := dec3 _ (hp 2 _ _ rfl rfl)
    obtain ⟨x3, rfl, w3⟩ := dec3 _ (hp 3 _ _ rfl rfl)
    exact ⟨⟨x0, x1, x2, x3⟩, rfl, w0, w1, w2, w3⟩
end Go.Proofs.Ytdhibknhejhfaaa.X
