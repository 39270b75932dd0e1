/-
  No cell of these rows narrows 'for every input' (looked for: loops, veiled, ifaces, maps, wideKeys, modest, calm, conditions, laid).
  DERIVED. THE GIVEN ROWS OF THIS SEAT. 4 by the template 'for every input the law returns true; each argument reads behind the call as it read before'; 0 by the template 'total and deterministic' (their statements: YtpddolihbnfahaaTotals.lean).
  GIVEN WITH THE SEED: the statements are not yours to turn. If you find one false, say at which input.
  Laid BY PROGRAM, IN A SANDBOX (cutbox-rows.mjs): the forced cells as the released guide's own fill.sh prints them over the translation 2b8d0b1f7d25be29… (all of the seat's roots in one cut). By AI agents, Wed Nov 11 2026. No macro, syntax, notation, axiom, sorry.
-/
import Derived.Test.YtpddolihbnfahaaChecked
import GoSem.Claim
import GoSem.ClaimJoined
import GoSem.ClaimMapViews
import Derived.JoinedTies
import Derived.KernelRfl
namespace Go.Proofs.Ytpddolihbnfahaa
/- THE CELL 'sum', in the pinned program and in every row, IS THE sha256 OF THE DUMP (.gsa) THAT YtpddolihbnfahaaProg.lean LOADS. Nothing in Lean hashes anything: it is a label: what it is worth is what the hold of that sum in a sandbox is worth. -/
noncomputable def Try.pinned : Pinned := { name := "ytpddolihbnfahaa", sum := "2b8d0b1f7d25be290bc553f19152c60b36c5947d7d41d4f49dc57ccd15beaad2", checked := Try.checked }
namespace Rows
def none {H : Type} : Left H := { results := [], args := [] }

/-- 'laws.FnElections': WHATEVER THE INPUT: true; the input reads as it did. -/
def fnElectionsSpec : ChangeSpec := { name := "fnElections", fn := fun _ => fun
  | [d] => { results := [.lit (.bool true)], args := [d] }
  | _ => none }
def fnElectionsRow : OpenClaim := { program := "ytpddolihbnfahaa", sum := "2b8d0b1f7d25be290bc553f19152c60b36c5947d7d41d4f49dc57ccd15beaad2", func := "loop.example/g00361/laws.FnElections", spec := "fnElections", inPlace := ["slices.overlaps[int]"], unfollowed := true, recurses := true, apart := false }
def FnElectionsSaid : Prop := fnElectionsRow.holds Try.pinned (OpenSpec.ofChange fnElectionsSpec)

/-- ITS FALSE NEIGHBOUR: 'it returns false'. Refute it at one input. -/
def fnElectionsWrong : ChangeSpec := { name := "fnElections", fn := fun _ => fun
  | [d] => { results := [.lit (.bool false)], args := [d] }
  | _ => none }
def FnElectionsWrongFalsely : Prop := fnElectionsRow.holds Try.pinned (OpenSpec.ofChange fnElectionsWrong)

/-- 'laws.FnElectSteps': WHATEVER THE INPUT: true; the input reads as it did. -/
def fnElectStepsSpec : ChangeSpec := { name := "fnElectSteps", fn := fun _ => fun
  | [d1, d2] => { results := [.lit (.bool true)], args := [d1, d2] }
  | _ => none }
def fnElectStepsRow : OpenClaim := { program := "ytpddolihbnfahaa", sum := "2b8d0b1f7d25be290bc553f19152c60b36c5947d7d41d4f49dc57ccd15beaad2", func := "loop.example/g00361/laws.FnElectSteps", spec := "fnElectSteps", inPlace := ["slices.overlaps[int]"], unfollowed := true, recurses := true, apart := false }
def FnElectStepsSaid : Prop := fnElectStepsRow.holds Try.pinned (OpenSpec.ofChange fnElectStepsSpec)

/-- ITS FALSE NEIGHBOUR: 'it returns false'. Refute it at one input. -/
def fnElectStepsWrong : ChangeSpec := { name := "fnElectSteps", fn := fun _ => fun
  | [d1, d2] => { results := [.lit (.bool false)], args := [d1, d2] }
  | _ => none }
def FnElectStepsWrongFalsely : Prop := fnElectStepsRow.holds Try.pinned (OpenSpec.ofChange fnElectStepsWrong)

/-- 'laws.FnExactPlayElection': WHATEVER THE INPUT: true; the input reads as it did. -/
def fnExactPlayElectionSpec : ChangeSpec := { name := "fnExactPlayElection", fn := fun _ => fun
  | [d1, d2] => { results := [.lit (.bool true)], args := [d1, d2] }
  | _ => none }
def fnExactPlayElectionRow : OpenClaim := { program := "ytpddolihbnfahaa", sum := "2b8d0b1f7d25be290bc553f19152c60b36c5947d7d41d4f49dc57ccd15beaad2", func := "loop.example/g00361/laws.FnExactPlayElection", spec := "fnExactPlayElection", inPlace := ["slices.overlaps[int]"], unfollowed := true, recurses := true, apart := false }
def FnExactPlayElectionSaid : Prop := fnExactPlayElectionRow.holds Try.pinned (OpenSpec.ofChange fnExactPlayElectionSpec)

/-- ITS FALSE NEIGHBOUR: 'it returns false'. Refute it at one input. -/
def fnExactPlayElectionWrong : ChangeSpec := { name := "fnExactPlayElection", fn := fun _ => fun
  | [d1, d2] => { results := [.lit (.bool false)], args := [d1, d2] }
  | _ => none }
def FnExactPlayElectionWrongFalsely : Prop := fnExactPlayElectionRow.holds Try.pinned (OpenSpec.ofChange fnExactPlayElectionWrong)

/-- 'laws.FnExactStepElection': WHATEVER THE INPUT: true; the input reads as it did. -/
def fnExactStepElectionSpec : ChangeSpec := { name := "fnExactStepElection", fn := fun _ => fun
  | [d1, d2] => { results := [.lit (.bool true)], args := [d1, d2] }
  | _ => none }
def fnExactStepElectionRow : OpenClaim := { program := "ytpddolihbnfahaa", sum := "2b8d0b1f7d25be290bc553f19152c60b36c5947d7d41d4f49dc57ccd15beaad2", func := "loop.example/g00361/laws.FnExactStepElection", spec := "fnExactStepElection", inPlace := ["slices.overlaps[int]"], unfollowed := true, recurses := true, apart := false }
def FnExactStepElectionSaid : Prop := fnExactStepElectionRow.holds Try.pinned (OpenSpec.ofChange fnExactStepElectionSpec)

/-- ITS FALSE NEIGHBOUR: 'it returns false'. Refute it at one input. -/
def fnExactStepElectionWrong : ChangeSpec := { name := "fnExactStepElection", fn := fun _ => fun
  | [d1, d2] => { results := [.lit (.bool false)], args := [d1, d2] }
  | _ => none }
def FnExactStepElectionWrongFalsely : Prop := fnExactStepElectionRow.holds Try.pinned (OpenSpec.ofChange fnExactStepElectionWrong)

/- THE SECOND FORM. 'bulk': how many values and letters a reading holds, each counted each time it is reached (what is shared counts as often as it is met; a slice's spare places count too). A statement '..UptoSaid' is the law's where the arguments, and the package variables that the reading takes, are together of bulk at most 1048576: NARROWER than '..Said'. Prove '..Said' where nothing that the law and all that it calls make is longer than what came in: it says more and counts as full. Else prove '..UptoSaid'. A law counts once. -/
mutual
def uptoBulk {H : Type} : DataW H → Nat
  | .lit (.string bytes) => bytes.length + 1
  | .lit _ => 1
  | .nil => 1
  | .ptr d => uptoBulk d + 1
  | .slice elems spare => uptoBulkAll elems + uptoBulkAll spare + 1
  | .agg parts => uptoBulkAll parts + 1
  | .iface _ d => uptoBulk d + 1
  | .map entries => uptoBulkEntries entries + 1
  | .held _ => 1
def uptoBulkAll {H : Type} : List (DataW H) → Nat
  | [] => 0
  | d :: r => uptoBulk d + uptoBulkAll r
def uptoBulkEntries {H : Type} : List (Lit × DataW H) → Nat
  | [] => 0
  | x :: r => uptoBulkEntry x + uptoBulkEntries r
def uptoBulkEntry {H : Type} : Lit × DataW H → Nat
  | (.string bytes, d) => bytes.length + uptoBulk d + 1
  | (_, d) => uptoBulk d + 1
 end
def uptoSmall : (H : Type) → List (DataW H) → Bool := fun _ ds => decide (uptoBulkAll ds ≤ 1048576)
def OpenSpec.upto (s : _root_.Go.ChangeSpec) : _root_.Go.OpenSpec := { _root_.Go.OpenSpec.ofChange s with cond := some uptoSmall }

/-- 'laws.FnElections', WHERE WHAT IT READS IS OF BULK AT MOST 1048576: true; the input reads as it did. -/
def fnElectionsUptoRow : OpenClaim := { program := "ytpddolihbnfahaa", sum := "2b8d0b1f7d25be290bc553f19152c60b36c5947d7d41d4f49dc57ccd15beaad2", func := "loop.example/g00361/laws.FnElections", spec := "fnElections", inPlace := ["slices.overlaps[int]"], unfollowed := true, recurses := true, apart := false, narrowed := true }
def FnElectionsUptoSaid : Prop := fnElectionsUptoRow.holds Try.pinned (OpenSpec.upto fnElectionsSpec)

/-- 'laws.FnElectSteps', WHERE WHAT IT READS IS OF BULK AT MOST 1048576: true; the input reads as it did. -/
def fnElectStepsUptoRow : OpenClaim := { program := "ytpddolihbnfahaa", sum := "2b8d0b1f7d25be290bc553f19152c60b36c5947d7d41d4f49dc57ccd15beaad2", func := "loop.example/g00361/laws.FnElectSteps", spec := "fnElectSteps", inPlace := ["slices.overlaps[int]"], unfollowed := true, recurses := true, apart := false, narrowed := true }
def FnElectStepsUptoSaid : Prop := fnElectStepsUptoRow.holds Try.pinned (OpenSpec.upto fnElectStepsSpec)

/-- 'laws.FnExactPlayElection', WHERE WHAT IT READS IS OF BULK AT MOST 1048576: true; the input reads as it did. -/
def fnExactPlayElectionUptoRow : OpenClaim := { program := "ytpddolihbnfahaa", sum := "2b8d0b1f7d25be290bc553f19152c60b36c5947d7d41d4f49dc57ccd15beaad2", func := "loop.example/g00361/laws.FnExactPlayElection", spec := "fnExactPlayElection", inPlace := ["slices.overlaps[int]"], unfollowed := true, recurses := true, apart := false, narrowed := true }
def FnExactPlayElectionUptoSaid : Prop := fnExactPlayElectionUptoRow.holds Try.pinned (OpenSpec.upto fnExactPlayElectionSpec)

/-- 'laws.FnExactStepElection', WHERE WHAT IT READS IS OF BULK AT MOST 1048576: true; the input reads as it did. -/
def fnExactStepElectionUptoRow : OpenClaim := { program := "ytpddolihbnfahaa", sum := "2b8d0b1f7d25be290bc553f19152c60b36c5947d7d41d4f49dc57ccd15beaad2", func := "loop.example/g00361/laws.FnExactStepElection", spec := "fnExactStepElection", inPlace := ["slices.overlaps[int]"], unfollowed := true, recurses := true, apart := false, narrowed := true }
def FnExactStepElectionUptoSaid : Prop := fnExactStepElectionUptoRow.holds Try.pinned (OpenSpec.upto fnExactStepElectionSpec)

end Rows
end Go.Proofs.Ytpddolihbnfahaa
