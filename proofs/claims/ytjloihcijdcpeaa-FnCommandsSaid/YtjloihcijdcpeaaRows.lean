/-
  No cell of these rows narrows 'for every input' (looked for: loops, veiled, ifaces, maps, wideKeys, modest, calm, conditions, laid).
  DERIVED. THE GIVEN ROWS OF THIS SEAT. 4 by the template 'for every input the law returns true; each argument reads behind the call as it read before'; 0 by the template 'total and deterministic' (their statements: YtjloihcijdcpeaaTotals.lean).
  GIVEN WITH THE SEED: the statements are not yours to turn. If you find one false, say at which input.
  Laid BY PROGRAM, IN A SANDBOX (cutbox-rows.mjs): the forced cells as the released guide's own fill.sh prints them over the translation 89dd8496430d666d… (all of the seat's roots in one cut). By AI agents, Wed Nov 11 2026. No macro, syntax, notation, axiom, sorry.
-/
import Derived.Test.YtjloihcijdcpeaaChecked
import GoSem.Claim
import GoSem.ClaimJoined
import GoSem.ClaimMapViews
import Derived.JoinedTies
import Derived.KernelRfl
namespace Go.Proofs.Ytjloihcijdcpeaa
/- THE CELL 'sum', in the pinned program and in every row, IS THE sha256 OF THE DUMP (.gsa) THAT YtjloihcijdcpeaaProg.lean LOADS. Nothing in Lean hashes anything: it is a label: what it is worth is what the hold of that sum in a sandbox is worth. -/
noncomputable def Try.pinned : Pinned := { name := "ytjloihcijdcpeaa", sum := "89dd8496430d666d8f5fdd6652fff1a31d81d0ae7b0ffa4cb0d75cd88a267ab4", checked := Try.checked }
namespace Rows
def none {H : Type} : Left H := { results := [], args := [] }

/-- 'laws.FnControls': WHATEVER THE INPUT: true; the input reads as it did. -/
def fnControlsSpec : ChangeSpec := { name := "fnControls", fn := fun _ => fun
  | [d] => { results := [.lit (.bool true)], args := [d] }
  | _ => none }
def fnControlsRow : OpenClaim := { program := "ytjloihcijdcpeaa", sum := "89dd8496430d666d8f5fdd6652fff1a31d81d0ae7b0ffa4cb0d75cd88a267ab4", func := "loop.example/g00361/laws.FnControls", spec := "fnControls", unfollowed := true, recurses := true, apart := false }
def FnControlsSaid : Prop := fnControlsRow.holds Try.pinned (OpenSpec.ofChange fnControlsSpec)

/-- ITS FALSE NEIGHBOUR: 'it returns false'. Refute it at one input. -/
def fnControlsWrong : ChangeSpec := { name := "fnControls", fn := fun _ => fun
  | [d] => { results := [.lit (.bool false)], args := [d] }
  | _ => none }
def FnControlsWrongFalsely : Prop := fnControlsRow.holds Try.pinned (OpenSpec.ofChange fnControlsWrong)

/-- 'laws.FnCommands': WHATEVER THE INPUT: true; the input reads as it did. -/
def fnCommandsSpec : ChangeSpec := { name := "fnCommands", fn := fun _ => fun
  | [d1, d2] => { results := [.lit (.bool true)], args := [d1, d2] }
  | _ => none }
def fnCommandsRow : OpenClaim := { program := "ytjloihcijdcpeaa", sum := "89dd8496430d666d8f5fdd6652fff1a31d81d0ae7b0ffa4cb0d75cd88a267ab4", func := "loop.example/g00361/laws.FnCommands", spec := "fnCommands", unfollowed := true, recurses := true, apart := false }
def FnCommandsSaid : Prop := fnCommandsRow.holds Try.pinned (OpenSpec.ofChange fnCommandsSpec)

/-- ITS FALSE NEIGHBOUR: 'it returns false'. Refute it at one input. -/
def fnCommandsWrong : ChangeSpec := { name := "fnCommands", fn := fun _ => fun
  | [d1, d2] => { results := [.lit (.bool false)], args := [d1, d2] }
  | _ => none }
def FnCommandsWrongFalsely : Prop := fnCommandsRow.holds Try.pinned (OpenSpec.ofChange fnCommandsWrong)

/-- 'laws.FnExactPlayCommands': WHATEVER THE INPUT: true; the input reads as it did. -/
def fnExactPlayCommandsSpec : ChangeSpec := { name := "fnExactPlayCommands", fn := fun _ => fun
  | [d1, d2] => { results := [.lit (.bool true)], args := [d1, d2] }
  | _ => none }
def fnExactPlayCommandsRow : OpenClaim := { program := "ytjloihcijdcpeaa", sum := "89dd8496430d666d8f5fdd6652fff1a31d81d0ae7b0ffa4cb0d75cd88a267ab4", func := "loop.example/g00361/laws.FnExactPlayCommands", spec := "fnExactPlayCommands", unfollowed := true, recurses := true, apart := false }
def FnExactPlayCommandsSaid : Prop := fnExactPlayCommandsRow.holds Try.pinned (OpenSpec.ofChange fnExactPlayCommandsSpec)

/-- ITS FALSE NEIGHBOUR: 'it returns false'. Refute it at one input. -/
def fnExactPlayCommandsWrong : ChangeSpec := { name := "fnExactPlayCommands", fn := fun _ => fun
  | [d1, d2] => { results := [.lit (.bool false)], args := [d1, d2] }
  | _ => none }
def FnExactPlayCommandsWrongFalsely : Prop := fnExactPlayCommandsRow.holds Try.pinned (OpenSpec.ofChange fnExactPlayCommandsWrong)

/-- 'laws.FnExactDoCommand': WHATEVER THE INPUT: true; the input reads as it did. -/
def fnExactDoCommandSpec : ChangeSpec := { name := "fnExactDoCommand", fn := fun _ => fun
  | [d1, d2] => { results := [.lit (.bool true)], args := [d1, d2] }
  | _ => none }
def fnExactDoCommandRow : OpenClaim := { program := "ytjloihcijdcpeaa", sum := "89dd8496430d666d8f5fdd6652fff1a31d81d0ae7b0ffa4cb0d75cd88a267ab4", func := "loop.example/g00361/laws.FnExactDoCommand", spec := "fnExactDoCommand", unfollowed := true, recurses := true, apart := false }
def FnExactDoCommandSaid : Prop := fnExactDoCommandRow.holds Try.pinned (OpenSpec.ofChange fnExactDoCommandSpec)

/-- ITS FALSE NEIGHBOUR: 'it returns false'. Refute it at one input. -/
def fnExactDoCommandWrong : ChangeSpec := { name := "fnExactDoCommand", fn := fun _ => fun
  | [d1, d2] => { results := [.lit (.bool false)], args := [d1, d2] }
  | _ => none }
def FnExactDoCommandWrongFalsely : Prop := fnExactDoCommandRow.holds Try.pinned (OpenSpec.ofChange fnExactDoCommandWrong)

/- THE SECOND FORM. 'bulk': how many values and letters a reading holds, each counted each time it is reached (what is shared counts as often as it is met; a slice's spare places count too). A statement '..UptoSaid' is the law's where the arguments, and the package variables that the reading takes, are together of bulk at most 1048576: NARROWER than '..Said'. Prove '..Said' where nothing that the law and all that it calls make is longer than what came in: it says more and counts as full. Else prove '..UptoSaid'. A law counts once. -/
mutual
def uptoBulk {H : Type} : DataW H → Nat
  | .lit (.string bytes) => bytes.length + 1
  | .lit _ => 1
  | .nil => 1
  | .ptr d => uptoBulk d + 1
  | .slice elems spare => uptoBulkAll elems + uptoBulkAll spare + 1
  | .agg parts => uptoBulkAll parts + 1
  | .iface _ d => uptoBulk d + 1
  | .map entries => uptoBulkEntries entries + 1
  | .held _ => 1
def uptoBulkAll {H : Type} : List (DataW H) → Nat
  | [] => 0
  | d :: r => uptoBulk d + uptoBulkAll r
def uptoBulkEntries {H : Type} : List (Lit × DataW H) → Nat
  | [] => 0
  | x :: r => uptoBulkEntry x + uptoBulkEntries r
def uptoBulkEntry {H : Type} : Lit × DataW H → Nat
  | (.string bytes, d) => bytes.length + uptoBulk d + 1
  | (_, d) => uptoBulk d + 1
 end
def uptoSmall : (H : Type) → List (DataW H) → Bool := fun _ ds => decide (uptoBulkAll ds ≤ 1048576)
def OpenSpec.upto (s : _root_.Go.ChangeSpec) : _root_.Go.OpenSpec := { _root_.Go.OpenSpec.ofChange s with cond := some uptoSmall }

/-- 'laws.FnControls', WHERE WHAT IT READS IS OF BULK AT MOST 1048576: true; the input reads as it did. -/
def fnControlsUptoRow : OpenClaim := { program := "ytjloihcijdcpeaa", sum := "89dd8496430d666d8f5fdd6652fff1a31d81d0ae7b0ffa4cb0d75cd88a267ab4", func := "loop.example/g00361/laws.FnControls", spec := "fnControls", unfollowed := true, recurses := true, apart := false, narrowed := true }
def FnControlsUptoSaid : Prop := fnControlsUptoRow.holds Try.pinned (OpenSpec.upto fnControlsSpec)

/-- 'laws.FnCommands', WHERE WHAT IT READS IS OF BULK AT MOST 1048576: true; the input reads as it did. -/
def fnCommandsUptoRow : OpenClaim := { program := "ytjloihcijdcpeaa", sum := "89dd8496430d666d8f5fdd6652fff1a31d81d0ae7b0ffa4cb0d75cd88a267ab4", func := "loop.example/g00361/laws.FnCommands", spec := "fnCommands", unfollowed := true, recurses := true, apart := false, narrowed := true }
def FnCommandsUptoSaid : Prop := fnCommandsUptoRow.holds Try.pinned (OpenSpec.upto fnCommandsSpec)

/-- 'laws.FnExactPlayCommands', WHERE WHAT IT READS IS OF BULK AT MOST 1048576: true; the input reads as it did. -/
def fnExactPlayCommandsUptoRow : OpenClaim := { program := "ytjloihcijdcpeaa", sum := "89dd8496430d666d8f5fdd6652fff1a31d81d0ae7b0ffa4cb0d75cd88a267ab4", func := "loop.example/g00361/laws.FnExactPlayCommands", spec := "fnExactPlayCommands", unfollowed := true, recurses := true, apart := false, narrowed := true }
def FnExactPlayCommandsUptoSaid : Prop := fnExactPlayCommandsUptoRow.holds Try.pinned (OpenSpec.upto fnExactPlayCommandsSpec)

/-- 'laws.FnExactDoCommand', WHERE WHAT IT READS IS OF BULK AT MOST 1048576: true; the input reads as it did. -/
def fnExactDoCommandUptoRow : OpenClaim := { program := "ytjloihcijdcpeaa", sum := "89dd8496430d666d8f5fdd6652fff1a31d81d0ae7b0ffa4cb0d75cd88a267ab4", func := "loop.example/g00361/laws.FnExactDoCommand", spec := "fnExactDoCommand", unfollowed := true, recurses := true, apart := false, narrowed := true }
def FnExactDoCommandUptoSaid : Prop := fnExactDoCommandUptoRow.holds Try.pinned (OpenSpec.upto fnExactDoCommandSpec)

end Rows
end Go.Proofs.Ytjloihcijdcpeaa
