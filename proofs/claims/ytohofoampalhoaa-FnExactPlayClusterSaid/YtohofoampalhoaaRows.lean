/-
  No cell of these rows narrows 'for every input' (looked for: loops, veiled, ifaces, maps, wideKeys, modest, calm, conditions, laid).
  DERIVED. THE GIVEN ROWS OF THIS SEAT. 6 by the template 'for every input the law returns true; each argument reads behind the call as it read before'; 0 by the template 'total and deterministic' (their statements: YtohofoampalhoaaTotals.lean).
  GIVEN WITH THE SEED: the statements are not yours to turn. If you find one false, say at which input.
  Laid BY PROGRAM, IN A SANDBOX (cutbox-rows.mjs): the forced cells as the released guide's own fill.sh prints them over the translation f4977cc302cf8ff5… (all of the seat's roots in one cut). By AI agents, Wed Nov 11 2026. No macro, syntax, notation, axiom, sorry.
-/
import Derived.Test.YtohofoampalhoaaChecked
import GoSem.Claim
import GoSem.ClaimJoined
import GoSem.ClaimMapViews
import Derived.JoinedTies
import Derived.KernelRfl
namespace Go.Proofs.Ytohofoampalhoaa
/- THE CELL 'sum', in the pinned program and in every row, IS THE sha256 OF THE DUMP (.gsa) THAT YtohofoampalhoaaProg.lean LOADS. Nothing in Lean hashes anything: it is a label: what it is worth is what the hold of that sum in a sandbox is worth. -/
noncomputable def Try.pinned : Pinned := { name := "ytohofoampalhoaa", sum := "f4977cc302cf8ff57677480293bfeb6c7b8c565297909b9117b2841569c813b1", checked := Try.checked }
namespace Rows
def none {H : Type} : Left H := { results := [], args := [] }

/-- 'laws.FnExactNewCluster': WHATEVER THE INPUT: true; the input reads as it did. -/
def fnExactNewClusterSpec : ChangeSpec := { name := "fnExactNewCluster", fn := fun _ => fun
  | [d] => { results := [.lit (.bool true)], args := [d] }
  | _ => none }
def fnExactNewClusterRow : OpenClaim := { program := "ytohofoampalhoaa", sum := "f4977cc302cf8ff57677480293bfeb6c7b8c565297909b9117b2841569c813b1", func := "loop.example/g00361/laws.FnExactNewCluster", spec := "fnExactNewCluster", apart := false }
def FnExactNewClusterSaid : Prop := fnExactNewClusterRow.holds Try.pinned (OpenSpec.ofChange fnExactNewClusterSpec)

/-- ITS FALSE NEIGHBOUR: 'it returns false'. Refute it at one input. -/
def fnExactNewClusterWrong : ChangeSpec := { name := "fnExactNewCluster", fn := fun _ => fun
  | [d] => { results := [.lit (.bool false)], args := [d] }
  | _ => none }
def FnExactNewClusterWrongFalsely : Prop := fnExactNewClusterRow.holds Try.pinned (OpenSpec.ofChange fnExactNewClusterWrong)

/-- 'laws.FnExactGoodCluster': WHATEVER THE INPUT: true; the input reads as it did. -/
def fnExactGoodClusterSpec : ChangeSpec := { name := "fnExactGoodCluster", fn := fun _ => fun
  | [d] => { results := [.lit (.bool true)], args := [d] }
  | _ => none }
def fnExactGoodClusterRow : OpenClaim := { program := "ytohofoampalhoaa", sum := "f4977cc302cf8ff57677480293bfeb6c7b8c565297909b9117b2841569c813b1", func := "loop.example/g00361/laws.FnExactGoodCluster", spec := "fnExactGoodCluster", unfollowed := true, recurses := true, apart := false }
def FnExactGoodClusterSaid : Prop := fnExactGoodClusterRow.holds Try.pinned (OpenSpec.ofChange fnExactGoodClusterSpec)

/-- ITS FALSE NEIGHBOUR: 'it returns false'. Refute it at one input. -/
def fnExactGoodClusterWrong : ChangeSpec := { name := "fnExactGoodCluster", fn := fun _ => fun
  | [d] => { results := [.lit (.bool false)], args := [d] }
  | _ => none }
def FnExactGoodClusterWrongFalsely : Prop := fnExactGoodClusterRow.holds Try.pinned (OpenSpec.ofChange fnExactGoodClusterWrong)

/-- 'laws.FnExactThinkLead': WHATEVER THE INPUT: true; the input reads as it did. -/
def fnExactThinkLeadSpec : ChangeSpec := { name := "fnExactThinkLead", fn := fun _ => fun
  | [d] => { results := [.lit (.bool true)], args := [d] }
  | _ => none }
def fnExactThinkLeadRow : OpenClaim := { program := "ytohofoampalhoaa", sum := "f4977cc302cf8ff57677480293bfeb6c7b8c565297909b9117b2841569c813b1", func := "loop.example/g00361/laws.FnExactThinkLead", spec := "fnExactThinkLead", unfollowed := true, recurses := true, apart := false }
def FnExactThinkLeadSaid : Prop := fnExactThinkLeadRow.holds Try.pinned (OpenSpec.ofChange fnExactThinkLeadSpec)

/-- ITS FALSE NEIGHBOUR: 'it returns false'. Refute it at one input. -/
def fnExactThinkLeadWrong : ChangeSpec := { name := "fnExactThinkLead", fn := fun _ => fun
  | [d] => { results := [.lit (.bool false)], args := [d] }
  | _ => none }
def FnExactThinkLeadWrongFalsely : Prop := fnExactThinkLeadRow.holds Try.pinned (OpenSpec.ofChange fnExactThinkLeadWrong)

/-- 'laws.FnExactBehindIn': WHATEVER THE INPUT: true; the input reads as it did. -/
def fnExactBehindInSpec : ChangeSpec := { name := "fnExactBehindIn", fn := fun _ => fun
  | [d] => { results := [.lit (.bool true)], args := [d] }
  | _ => none }
def fnExactBehindInRow : OpenClaim := { program := "ytohofoampalhoaa", sum := "f4977cc302cf8ff57677480293bfeb6c7b8c565297909b9117b2841569c813b1", func := "loop.example/g00361/laws.FnExactBehindIn", spec := "fnExactBehindIn", unfollowed := true, recurses := true, apart := false }
def FnExactBehindInSaid : Prop := fnExactBehindInRow.holds Try.pinned (OpenSpec.ofChange fnExactBehindInSpec)

/-- ITS FALSE NEIGHBOUR: 'it returns false'. Refute it at one input. -/
def fnExactBehindInWrong : ChangeSpec := { name := "fnExactBehindIn", fn := fun _ => fun
  | [d] => { results := [.lit (.bool false)], args := [d] }
  | _ => none }
def FnExactBehindInWrongFalsely : Prop := fnExactBehindInRow.holds Try.pinned (OpenSpec.ofChange fnExactBehindInWrong)

/-- 'laws.FnExactPlayCluster': WHATEVER THE INPUT: true; the input reads as it did. -/
def fnExactPlayClusterSpec : ChangeSpec := { name := "fnExactPlayCluster", fn := fun _ => fun
  | [d1, d2] => { results := [.lit (.bool true)], args := [d1, d2] }
  | _ => none }
def fnExactPlayClusterRow : OpenClaim := { program := "ytohofoampalhoaa", sum := "f4977cc302cf8ff57677480293bfeb6c7b8c565297909b9117b2841569c813b1", func := "loop.example/g00361/laws.FnExactPlayCluster", spec := "fnExactPlayCluster", inPlace := ["slices.overlaps[int]"], unfollowed := true, recurses := true, apart := false }
def FnExactPlayClusterSaid : Prop := fnExactPlayClusterRow.holds Try.pinned (OpenSpec.ofChange fnExactPlayClusterSpec)

/-- ITS FALSE NEIGHBOUR: 'it returns false'. Refute it at one input. -/
def fnExactPlayClusterWrong : ChangeSpec := { name := "fnExactPlayCluster", fn := fun _ => fun
  | [d1, d2] => { results := [.lit (.bool false)], args := [d1, d2] }
  | _ => none }
def FnExactPlayClusterWrongFalsely : Prop := fnExactPlayClusterRow.holds Try.pinned (OpenSpec.ofChange fnExactPlayClusterWrong)

/-- 'laws.FnExactStepCluster': WHATEVER THE INPUT: true; the input reads as it did. -/
def fnExactStepClusterSpec : ChangeSpec := { name := "fnExactStepCluster", fn := fun _ => fun
  | [d1, d2] => { results := [.lit (.bool true)], args := [d1, d2] }
  | _ => none }
def fnExactStepClusterRow : OpenClaim := { program := "ytohofoampalhoaa", sum := "f4977cc302cf8ff57677480293bfeb6c7b8c565297909b9117b2841569c813b1", func := "loop.example/g00361/laws.FnExactStepCluster", spec := "fnExactStepCluster", inPlace := ["slices.overlaps[int]"], unfollowed := true, recurses := true, apart := false }
def FnExactStepClusterSaid : Prop := fnExactStepClusterRow.holds Try.pinned (OpenSpec.ofChange fnExactStepClusterSpec)

/-- ITS FALSE NEIGHBOUR: 'it returns false'. Refute it at one input. -/
def fnExactStepClusterWrong : ChangeSpec := { name := "fnExactStepCluster", fn := fun _ => fun
  | [d1, d2] => { results := [.lit (.bool false)], args := [d1, d2] }
  | _ => none }
def FnExactStepClusterWrongFalsely : Prop := fnExactStepClusterRow.holds Try.pinned (OpenSpec.ofChange fnExactStepClusterWrong)

/- THE SECOND FORM. 'bulk': how many values and letters a reading holds, each counted each time it is reached (what is shared counts as often as it is met; a slice's spare places count too). A statement '..UptoSaid' is the law's where the arguments, and the package variables that the reading takes, are together of bulk at most 1048576: NARROWER than '..Said'. Prove '..Said' where nothing that the law and all that it calls make is longer than what came in: it says more and counts as full. Else prove '..UptoSaid'. A law counts once. -/
mutual
def uptoBulk {H : Type} : DataW H → Nat
  | .lit (.string bytes) => bytes.length + 1
  | .lit _ => 1
  | .nil => 1
  | .ptr d => uptoBulk d + 1
  | .slice elems spare => uptoBulkAll elems + uptoBulkAll spare + 1
  | .agg parts => uptoBulkAll parts + 1
  | .iface _ d => uptoBulk d + 1
  | .map entries => uptoBulkEntries entries + 1
  | .held _ => 1
def uptoBulkAll {H : Type} : List (DataW H) → Nat
  | [] => 0
  | d :: r => uptoBulk d + uptoBulkAll r
def uptoBulkEntries {H : Type} : List (Lit × DataW H) → Nat
  | [] => 0
  | x :: r => uptoBulkEntry x + uptoBulkEntries r
def uptoBulkEntry {H : Type} : Lit × DataW H → Nat
  | (.string bytes, d) => bytes.length + uptoBulk d + 1
  | (_, d) => uptoBulk d + 1
 end
def uptoSmall : (H : Type) → List (DataW H) → Bool := fun _ ds => decide (uptoBulkAll ds ≤ 1048576)
def OpenSpec.upto (s : _root_.Go.ChangeSpec) : _root_.Go.OpenSpec := { _root_.Go.OpenSpec.ofChange s with cond := some uptoSmall }

/-- 'laws.FnExactNewCluster', WHERE WHAT IT READS IS OF BULK AT MOST 1048576: true; the input reads as it did. -/
def fnExactNewClusterUptoRow : OpenClaim := { program := "ytohofoampalhoaa", sum := "f4977cc302cf8ff57677480293bfeb6c7b8c565297909b9117b2841569c813b1", func := "loop.example/g00361/laws.FnExactNewCluster", spec := "fnExactNewCluster", apart := false, narrowed := true }
def FnExactNewClusterUptoSaid : Prop := fnExactNewClusterUptoRow.holds Try.pinned (OpenSpec.upto fnExactNewClusterSpec)

/-- 'laws.FnExactGoodCluster', WHERE WHAT IT READS IS OF BULK AT MOST 1048576: true; the input reads as it did. -/
def fnExactGoodClusterUptoRow : OpenClaim := { program := "ytohofoampalhoaa", sum := "f4977cc302cf8ff57677480293bfeb6c7b8c565297909b9117b2841569c813b1", func := "loop.example/g00361/laws.FnExactGoodCluster", spec := "fnExactGoodCluster", unfollowed := true, recurses := true, apart := false, narrowed := true }
def FnExactGoodClusterUptoSaid : Prop := fnExactGoodClusterUptoRow.holds Try.pinned (OpenSpec.upto fnExactGoodClusterSpec)

/-- 'laws.FnExactThinkLead', WHERE WHAT IT READS IS OF BULK AT MOST 1048576: true; the input reads as it did. -/
def fnExactThinkLeadUptoRow : OpenClaim := { program := "ytohofoampalhoaa", sum := "f4977cc302cf8ff57677480293bfeb6c7b8c565297909b9117b2841569c813b1", func := "loop.example/g00361/laws.FnExactThinkLead", spec := "fnExactThinkLead", unfollowed := true, recurses := true, apart := false, narrowed := true }
def FnExactThinkLeadUptoSaid : Prop := fnExactThinkLeadUptoRow.holds Try.pinned (OpenSpec.upto fnExactThinkLeadSpec)

/-- 'laws.FnExactBehindIn', WHERE WHAT IT READS IS OF BULK AT MOST 1048576: true; the input reads as it did. -/
def fnExactBehindInUptoRow : OpenClaim := { program := "ytohofoampalhoaa", sum := "f4977cc302cf8ff57677480293bfeb6c7b8c565297909b9117b2841569c813b1", func := "loop.example/g00361/laws.FnExactBehindIn", spec := "fnExactBehindIn", unfollowed := true, recurses := true, apart := false, narrowed := true }
def FnExactBehindInUptoSaid : Prop := fnExactBehindInUptoRow.holds Try.pinned (OpenSpec.upto fnExactBehindInSpec)

/-- 'laws.FnExactPlayCluster', WHERE WHAT IT READS IS OF BULK AT MOST 1048576: true; the input reads as it did. -/
def fnExactPlayClusterUptoRow : OpenClaim := { program := "ytohofoampalhoaa", sum := "f4977cc302cf8ff57677480293bfeb6c7b8c565297909b9117b2841569c813b1", func := "loop.example/g00361/laws.FnExactPlayCluster", spec := "fnExactPlayCluster", inPlace := ["slices.overlaps[int]"], unfollowed := true, recurses := true, apart := false, narrowed := true }
def FnExactPlayClusterUptoSaid : Prop := fnExactPlayClusterUptoRow.holds Try.pinned (OpenSpec.upto fnExactPlayClusterSpec)

/-- 'laws.FnExactStepCluster', WHERE WHAT IT READS IS OF BULK AT MOST 1048576: true; the input reads as it did. -/
def fnExactStepClusterUptoRow : OpenClaim := { program := "ytohofoampalhoaa", sum := "f4977cc302cf8ff57677480293bfeb6c7b8c565297909b9117b2841569c813b1", func := "loop.example/g00361/laws.FnExactStepCluster", spec := "fnExactStepCluster", inPlace := ["slices.overlaps[int]"], unfollowed := true, recurses := true, apart := false, narrowed := true }
def FnExactStepClusterUptoSaid : Prop := fnExactStepClusterUptoRow.holds Try.pinned (OpenSpec.upto fnExactStepClusterSpec)

end Rows
end Go.Proofs.Ytohofoampalhoaa
