/-
  No cell of these rows narrows 'for every input' (looked for: loops, veiled, ifaces, maps, wideKeys, modest, calm, conditions, laid).
  DERIVED. THE GIVEN ROWS OF THIS SEAT. 4 by the template 'for every input the law returns true; each argument reads behind the call as it read before'; 0 by the template 'total and deterministic' (their statements: YtdhibknhejhfaaaTotals.lean).
  GIVEN WITH THE SEED: the statements are not yours to turn. If you find one false, say at which input.
  Laid BY PROGRAM, IN A SANDBOX (cutbox-rows.mjs): the forced cells as the released guide's own fill.sh prints them over the translation d470d1ecd317dbee… (all of the seat's roots in one cut). By AI agents, Wed Nov 11 2026. No macro, syntax, notation, axiom, sorry.
-/
import Derived.Test.YtdhibknhejhfaaaChecked
import GoSem.Claim
import GoSem.ClaimJoined
import GoSem.ClaimMapViews
import Derived.JoinedTies
import Derived.KernelRfl
namespace Go.Proofs.Ytdhibknhejhfaaa
/- THE CELL 'sum', in the pinned program and in every row, IS THE sha256 OF THE DUMP (.gsa) THAT YtdhibknhejhfaaaProg.lean LOADS. Nothing in Lean hashes anything: it is a label: what it is worth is what the hold of that sum in a sandbox is worth. -/
noncomputable def Try.pinned : Pinned := { name := "ytdhibknhejhfaaa", sum := "d470d1ecd317dbeefa2c4c6c0ff9b474e5625d51acda56ff16b3e447de81aac8", checked := Try.checked }
namespace Rows
def none {H : Type} : Left H := { results := [], args := [] }

/-- 'laws.FnReaders': WHATEVER THE INPUT: true; the input reads as it did. -/
def fnReadersSpec : ChangeSpec := { name := "fnReaders", fn := fun _ => fun
  | [d1, d2] => { results := [.lit (.bool true)], args := [d1, d2] }
  | _ => none }
def fnReadersRow : OpenClaim := { program := "ytdhibknhejhfaaa", sum := "d470d1ecd317dbeefa2c4c6c0ff9b474e5625d51acda56ff16b3e447de81aac8", func := "loop.example/g00361/laws.FnReaders", spec := "fnReaders", unfollowed := true, recurses := true, apart := false }
def FnReadersSaid : Prop := fnReadersRow.holds Try.pinned (OpenSpec.ofChange fnReadersSpec)

/-- ITS FALSE NEIGHBOUR: 'it returns false'. Refute it at one input. -/
def fnReadersWrong : ChangeSpec := { name := "fnReaders", fn := fun _ => fun
  | [d1, d2] => { results := [.lit (.bool false)], args := [d1, d2] }
  | _ => none }
def FnReadersWrongFalsely : Prop := fnReadersRow.holds Try.pinned (OpenSpec.ofChange fnReadersWrong)

/-- 'laws.FnExactPlayReaders': WHATEVER THE INPUT: true; the input reads as it did. -/
def fnExactPlayReadersSpec : ChangeSpec := { name := "fnExactPlayReaders", fn := fun _ => fun
  | [d1, d2, d3] => { results := [.lit (.bool true)], args := [d1, d2, d3] }
  | _ => none }
def fnExactPlayReadersRow : OpenClaim := { program := "ytdhibknhejhfaaa", sum := "d470d1ecd317dbeefa2c4c6c0ff9b474e5625d51acda56ff16b3e447de81aac8", func := "loop.example/g00361/laws.FnExactPlayReaders", spec := "fnExactPlayReaders", unfollowed := true, recurses := true, apart := false }
def FnExactPlayReadersSaid : Prop := fnExactPlayReadersRow.holds Try.pinned (OpenSpec.ofChange fnExactPlayReadersSpec)

/-- ITS FALSE NEIGHBOUR: 'it returns false'. Refute it at one input. -/
def fnExactPlayReadersWrong : ChangeSpec := { name := "fnExactPlayReaders", fn := fun _ => fun
  | [d1, d2, d3] => { results := [.lit (.bool false)], args := [d1, d2, d3] }
  | _ => none }
def FnExactPlayReadersWrongFalsely : Prop := fnExactPlayReadersRow.holds Try.pinned (OpenSpec.ofChange fnExactPlayReadersWrong)

/-- 'laws.FnExactStepReaders': WHATEVER THE INPUT: true; the input reads as it did. -/
def fnExactStepReadersSpec : ChangeSpec := { name := "fnExactStepReaders", fn := fun _ => fun
  | [d1, d2] => { results := [.lit (.bool true)], args := [d1, d2] }
  | _ => none }
def fnExactStepReadersRow : OpenClaim := { program := "ytdhibknhejhfaaa", sum := "d470d1ecd317dbeefa2c4c6c0ff9b474e5625d51acda56ff16b3e447de81aac8", func := "loop.example/g00361/laws.FnExactStepReaders", spec := "fnExactStepReaders", unfollowed := true, recurses := true, apart := false }
def FnExactStepReadersSaid : Prop := fnExactStepReadersRow.holds Try.pinned (OpenSpec.ofChange fnExactStepReadersSpec)

/-- ITS FALSE NEIGHBOUR: 'it returns false'. Refute it at one input. -/
def fnExactStepReadersWrong : ChangeSpec := { name := "fnExactStepReaders", fn := fun _ => fun
  | [d1, d2] => { results := [.lit (.bool false)], args := [d1, d2] }
  | _ => none }
def FnExactStepReadersWrongFalsely : Prop := fnExactStepReadersRow.holds Try.pinned (OpenSpec.ofChange fnExactStepReadersWrong)

/-- 'laws.FnReaderSteps': WHATEVER THE INPUT: true; the input reads as it did. -/
def fnReaderStepsSpec : ChangeSpec := { name := "fnReaderSteps", fn := fun _ => fun
  | [d1, d2] => { results := [.lit (.bool true)], args := [d1, d2] }
  | _ => none }
def fnReaderStepsRow : OpenClaim := { program := "ytdhibknhejhfaaa", sum := "d470d1ecd317dbeefa2c4c6c0ff9b474e5625d51acda56ff16b3e447de81aac8", func := "loop.example/g00361/laws.FnReaderSteps", spec := "fnReaderSteps", unfollowed := true, recurses := true, apart := false }
def FnReaderStepsSaid : Prop := fnReaderStepsRow.holds Try.pinned (OpenSpec.ofChange fnReaderStepsSpec)

/-- ITS FALSE NEIGHBOUR: 'it returns false'. Refute it at one input. -/
def fnReaderStepsWrong : ChangeSpec := { name := "fnReaderSteps", fn := fun _ => fun
  | [d1, d2] => { results := [.lit (.bool false)], args := [d1, d2] }
  | _ => none }
def FnReaderStepsWrongFalsely : Prop := fnReaderStepsRow.holds Try.pinned (OpenSpec.ofChange fnReaderStepsWrong)

/- THE SECOND FORM. 'bulk': how many values and letters a reading holds, each counted each time it is reached (what is shared counts as often as it is met; a slice's spare places count too). A statement '..UptoSaid' is the law's where the arguments, and the package variables that the reading takes, are together of bulk at most 1048576: NARROWER than '..Said'. Prove '..Said' where nothing that the law and all that it calls make is longer than what came in: it says more and counts as full. Else prove '..UptoSaid'. A law counts once. -/
mutual
def uptoBulk {H : Type} : DataW H → Nat
  | .lit (.string bytes) => bytes.length + 1
  | .lit _ => 1
  | .nil => 1
  | .ptr d => uptoBulk d + 1
  | .slice elems spare => uptoBulkAll elems + uptoBulkAll spare + 1
  | .agg parts => uptoBulkAll parts + 1
  | .iface _ d => uptoBulk d + 1
  | .map entries => uptoBulkEntries entries + 1
  | .held _ => 1
def uptoBulkAll {H : Type} : List (DataW H) → Nat
  | [] => 0
  | d :: r => uptoBulk d + uptoBulkAll r
def uptoBulkEntries {H : Type} : List (Lit × DataW H) → Nat
  | [] => 0
  | x :: r => uptoBulkEntry x + uptoBulkEntries r
def uptoBulkEntry {H : Type} : Lit × DataW H → Nat
  | (.string bytes, d) => bytes.length + uptoBulk d + 1
  | (_, d) => uptoBulk d + 1
 end
def uptoSmall : (H : Type) → List (DataW H) → Bool := fun _ ds => decide (uptoBulkAll ds ≤ 1048576)
def OpenSpec.upto (s : _root_.Go.ChangeSpec) : _root_.Go.OpenSpec := { _root_.Go.OpenSpec.ofChange s with cond := some uptoSmall }

/-- 'laws.FnReaders', WHERE WHAT IT READS IS OF BULK AT MOST 1048576: true; the input reads as it did. -/
def fnReadersUptoRow : OpenClaim := { program := "ytdhibknhejhfaaa", sum := "d470d1ecd317dbeefa2c4c6c0ff9b474e5625d51acda56ff16b3e447de81aac8", func := "loop.example/g00361/laws.FnReaders", spec := "fnReaders", unfollowed := true, recurses := true, apart := false, narrowed := true }
def FnReadersUptoSaid : Prop := fnReadersUptoRow.holds Try.pinned (OpenSpec.upto fnReadersSpec)

/-- 'laws.FnExactPlayReaders', WHERE WHAT IT READS IS OF BULK AT MOST 1048576: true; the input reads as it did. -/
def fnExactPlayReadersUptoRow : OpenClaim := { program := "ytdhibknhejhfaaa", sum := "d470d1ecd317dbeefa2c4c6c0ff9b474e5625d51acda56ff16b3e447de81aac8", func := "loop.example/g00361/laws.FnExactPlayReaders", spec := "fnExactPlayReaders", unfollowed := true, recurses := true, apart := false, narrowed := true }
def FnExactPlayReadersUptoSaid : Prop := fnExactPlayReadersUptoRow.holds Try.pinned (OpenSpec.upto fnExactPlayReadersSpec)

/-- 'laws.FnExactStepReaders', WHERE WHAT IT READS IS OF BULK AT MOST 1048576: true; the input reads as it did. -/
def fnExactStepReadersUptoRow : OpenClaim := { program := "ytdhibknhejhfaaa", sum := "d470d1ecd317dbeefa2c4c6c0ff9b474e5625d51acda56ff16b3e447de81aac8", func := "loop.example/g00361/laws.FnExactStepReaders", spec := "fnExactStepReaders", unfollowed := true, recurses := true, apart := false, narrowed := true }
def FnExactStepReadersUptoSaid : Prop := fnExactStepReadersUptoRow.holds Try.pinned (OpenSpec.upto fnExactStepReadersSpec)

/-- 'laws.FnReaderSteps', WHERE WHAT IT READS IS OF BULK AT MOST 1048576: true; the input reads as it did. -/
def fnReaderStepsUptoRow : OpenClaim := { program := "ytdhibknhejhfaaa", sum := "d470d1ecd317dbeefa2c4c6c0ff9b474e5625d51acda56ff16b3e447de81aac8", func := "loop.example/g00361/laws.FnReaderSteps", spec := "fnReaderSteps", unfollowed := true, recurses := true, apart := false, narrowed := true }
def FnReaderStepsUptoSaid : Prop := fnReaderStepsUptoRow.holds Try.pinned (OpenSpec.upto fnReaderStepsSpec)

end Rows
end Go.Proofs.Ytdhibknhejhfaaa
