/-
  No cell of these rows narrows 'for every input' (looked for: loops, veiled, ifaces, maps, wideKeys, modest, calm, conditions, laid).
  DERIVED. THE GIVEN ROWS OF THIS SEAT. 8 by the template 'for every input the law returns true; each argument reads behind the call as it read before'; 0 by the template 'total and deterministic' (their statements: YtddkoiapboeemaaTotals.lean).
  GIVEN WITH THE SEED: the statements are not yours to turn. If you find one false, say at which input.
  Laid BY PROGRAM, IN A SANDBOX (cutbox-rows.mjs): the forced cells as the released guide's own fill.sh prints them over the translation e5f182f1b66c74cd… (all of the seat's roots in one cut). By AI agents, Wed Nov 11 2026. No macro, syntax, notation, axiom, sorry.
-/
import Derived.Test.YtddkoiapboeemaaChecked
import GoSem.Claim
import GoSem.ClaimJoined
import GoSem.ClaimMapViews
import Derived.JoinedTies
import Derived.KernelRfl
namespace Go.Proofs.Ytddkoiapboeemaa
/- THE CELL 'sum', in the pinned program and in every row, IS THE sha256 OF THE DUMP (.gsa) THAT YtddkoiapboeemaaProg.lean LOADS. Nothing in Lean hashes anything: it is a label: what it is worth is what the hold of that sum in a sandbox is worth. -/
noncomputable def Try.pinned : Pinned := { name := "ytddkoiapboeemaa", sum := "e5f182f1b66c74cd5ed09efb409daa6a3962f8ca118341f3f0163143faddf496", checked := Try.checked }
namespace Rows
def none {H : Type} : Left H := { results := [], args := [] }

/-- 'laws.FnExactOnObject': WHATEVER THE INPUT: true; the input reads as it did. -/
def fnExactOnObjectSpec : ChangeSpec := { name := "fnExactOnObject", fn := fun _ => fun
  | [d1, d2] => { results := [.lit (.bool true)], args := [d1, d2] }
  | _ => none }
def fnExactOnObjectRow : OpenClaim := { program := "ytddkoiapboeemaa", sum := "e5f182f1b66c74cd5ed09efb409daa6a3962f8ca118341f3f0163143faddf496", func := "loop.example/g00361/laws.FnExactOnObject", spec := "fnExactOnObject", unfollowed := true, recurses := true, apart := false }
def FnExactOnObjectSaid : Prop := fnExactOnObjectRow.holds Try.pinned (OpenSpec.ofChange fnExactOnObjectSpec)

/-- ITS FALSE NEIGHBOUR: 'it returns false'. Refute it at one input. -/
def fnExactOnObjectWrong : ChangeSpec := { name := "fnExactOnObject", fn := fun _ => fun
  | [d1, d2] => { results := [.lit (.bool false)], args := [d1, d2] }
  | _ => none }
def FnExactOnObjectWrongFalsely : Prop := fnExactOnObjectRow.holds Try.pinned (OpenSpec.ofChange fnExactOnObjectWrong)

/-- 'laws.FnExactIsSequential': WHATEVER THE INPUT: true; the input reads as it did. -/
def fnExactIsSequentialSpec : ChangeSpec := { name := "fnExactIsSequential", fn := fun _ => fun
  | [d] => { results := [.lit (.bool true)], args := [d] }
  | _ => none }
def fnExactIsSequentialRow : OpenClaim := { program := "ytddkoiapboeemaa", sum := "e5f182f1b66c74cd5ed09efb409daa6a3962f8ca118341f3f0163143faddf496", func := "loop.example/g00361/laws.FnExactIsSequential", spec := "fnExactIsSequential", unfollowed := true, recurses := true, apart := false }
def FnExactIsSequentialSaid : Prop := fnExactIsSequentialRow.holds Try.pinned (OpenSpec.ofChange fnExactIsSequentialSpec)

/-- ITS FALSE NEIGHBOUR: 'it returns false'. Refute it at one input. -/
def fnExactIsSequentialWrong : ChangeSpec := { name := "fnExactIsSequential", fn := fun _ => fun
  | [d] => { results := [.lit (.bool false)], args := [d] }
  | _ => none }
def FnExactIsSequentialWrongFalsely : Prop := fnExactIsSequentialRow.holds Try.pinned (OpenSpec.ofChange fnExactIsSequentialWrong)

/-- 'laws.FnExactIsLinear': WHATEVER THE INPUT: true; the input reads as it did. -/
def fnExactIsLinearSpec : ChangeSpec := { name := "fnExactIsLinear", fn := fun _ => fun
  | [d] => { results := [.lit (.bool true)], args := [d] }
  | _ => none }
def fnExactIsLinearRow : OpenClaim := { program := "ytddkoiapboeemaa", sum := "e5f182f1b66c74cd5ed09efb409daa6a3962f8ca118341f3f0163143faddf496", func := "loop.example/g00361/laws.FnExactIsLinear", spec := "fnExactIsLinear", unfollowed := true, recurses := true, apart := false }
def FnExactIsLinearSaid : Prop := fnExactIsLinearRow.holds Try.pinned (OpenSpec.ofChange fnExactIsLinearSpec)

/-- ITS FALSE NEIGHBOUR: 'it returns false'. Refute it at one input. -/
def fnExactIsLinearWrong : ChangeSpec := { name := "fnExactIsLinear", fn := fun _ => fun
  | [d] => { results := [.lit (.bool false)], args := [d] }
  | _ => none }
def FnExactIsLinearWrongFalsely : Prop := fnExactIsLinearRow.holds Try.pinned (OpenSpec.ofChange fnExactIsLinearWrong)

/-- 'laws.FnExactOrderFor': WHATEVER THE INPUT: true; the input reads as it did. -/
def fnExactOrderForSpec : ChangeSpec := { name := "fnExactOrderFor", fn := fun _ => fun
  | [d] => { results := [.lit (.bool true)], args := [d] }
  | _ => none }
def fnExactOrderForRow : OpenClaim := { program := "ytddkoiapboeemaa", sum := "e5f182f1b66c74cd5ed09efb409daa6a3962f8ca118341f3f0163143faddf496", func := "loop.example/g00361/laws.FnExactOrderFor", spec := "fnExactOrderFor", unfollowed := true, recurses := true, apart := false }
def FnExactOrderForSaid : Prop := fnExactOrderForRow.holds Try.pinned (OpenSpec.ofChange fnExactOrderForSpec)

/-- ITS FALSE NEIGHBOUR: 'it returns false'. Refute it at one input. -/
def fnExactOrderForWrong : ChangeSpec := { name := "fnExactOrderFor", fn := fun _ => fun
  | [d] => { results := [.lit (.bool false)], args := [d] }
  | _ => none }
def FnExactOrderForWrongFalsely : Prop := fnExactOrderForRow.holds Try.pinned (OpenSpec.ofChange fnExactOrderForWrong)

/-- 'laws.FnExactRespectsTime': WHATEVER THE INPUT: true; the input reads as it did. -/
def fnExactRespectsTimeSpec : ChangeSpec := { name := "fnExactRespectsTime", fn := fun _ => fun
  | [d1, d2] => { results := [.lit (.bool true)], args := [d1, d2] }
  | _ => none }
def fnExactRespectsTimeRow : OpenClaim := { program := "ytddkoiapboeemaa", sum := "e5f182f1b66c74cd5ed09efb409daa6a3962f8ca118341f3f0163143faddf496", func := "loop.example/g00361/laws.FnExactRespectsTime", spec := "fnExactRespectsTime", unfollowed := true, recurses := true, apart := false }
def FnExactRespectsTimeSaid : Prop := fnExactRespectsTimeRow.holds Try.pinned (OpenSpec.ofChange fnExactRespectsTimeSpec)

/-- ITS FALSE NEIGHBOUR: 'it returns false'. Refute it at one input. -/
def fnExactRespectsTimeWrong : ChangeSpec := { name := "fnExactRespectsTime", fn := fun _ => fun
  | [d1, d2] => { results := [.lit (.bool false)], args := [d1, d2] }
  | _ => none }
def FnExactRespectsTimeWrongFalsely : Prop := fnExactRespectsTimeRow.holds Try.pinned (OpenSpec.ofChange fnExactRespectsTimeWrong)

/-- 'laws.FnExactIsLegal': WHATEVER THE INPUT: true; the input reads as it did. -/
def fnExactIsLegalSpec : ChangeSpec := { name := "fnExactIsLegal", fn := fun _ => fun
  | [d1, d2] => { results := [.lit (.bool true)], args := [d1, d2] }
  | _ => none }
def fnExactIsLegalRow : OpenClaim := { program := "ytddkoiapboeemaa", sum := "e5f182f1b66c74cd5ed09efb409daa6a3962f8ca118341f3f0163143faddf496", func := "loop.example/g00361/laws.FnExactIsLegal", spec := "fnExactIsLegal", recurses := true, apart := false }
def FnExactIsLegalSaid : Prop := fnExactIsLegalRow.holds Try.pinned (OpenSpec.ofChange fnExactIsLegalSpec)

/-- ITS FALSE NEIGHBOUR: 'it returns false'. Refute it at one input. -/
def fnExactIsLegalWrong : ChangeSpec := { name := "fnExactIsLegal", fn := fun _ => fun
  | [d1, d2] => { results := [.lit (.bool false)], args := [d1, d2] }
  | _ => none }
def FnExactIsLegalWrongFalsely : Prop := fnExactIsLegalRow.holds Try.pinned (OpenSpec.ofChange fnExactIsLegalWrong)

/-- 'laws.FnLinear': WHATEVER THE INPUT: true; the input reads as it did. -/
def fnLinearSpec : ChangeSpec := { name := "fnLinear", fn := fun _ => fun
  | [d] => { results := [.lit (.bool true)], args := [d] }
  | _ => none }
def fnLinearRow : OpenClaim := { program := "ytddkoiapboeemaa", sum := "e5f182f1b66c74cd5ed09efb409daa6a3962f8ca118341f3f0163143faddf496", func := "loop.example/g00361/laws.FnLinear", spec := "fnLinear", unfollowed := true, recurses := true, apart := false }
def FnLinearSaid : Prop := fnLinearRow.holds Try.pinned (OpenSpec.ofChange fnLinearSpec)

/-- ITS FALSE NEIGHBOUR: 'it returns false'. Refute it at one input. -/
def fnLinearWrong : ChangeSpec := { name := "fnLinear", fn := fun _ => fun
  | [d] => { results := [.lit (.bool false)], args := [d] }
  | _ => none }
def FnLinearWrongFalsely : Prop := fnLinearRow.holds Try.pinned (OpenSpec.ofChange fnLinearWrong)

/-- 'laws.FnOrders': WHATEVER THE INPUT: true; the input reads as it did. -/
def fnOrdersSpec : ChangeSpec := { name := "fnOrders", fn := fun _ => fun
  | [d1, d2] => { results := [.lit (.bool true)], args := [d1, d2] }
  | _ => none }
def fnOrdersRow : OpenClaim := { program := "ytddkoiapboeemaa", sum := "e5f182f1b66c74cd5ed09efb409daa6a3962f8ca118341f3f0163143faddf496", func := "loop.example/g00361/laws.FnOrders", spec := "fnOrders", unfollowed := true, recurses := true, apart := false }
def FnOrdersSaid : Prop := fnOrdersRow.holds Try.pinned (OpenSpec.ofChange fnOrdersSpec)

/-- ITS FALSE NEIGHBOUR: 'it returns false'. Refute it at one input. -/
def fnOrdersWrong : ChangeSpec := { name := "fnOrders", fn := fun _ => fun
  | [d1, d2] => { results := [.lit (.bool false)], args := [d1, d2] }
  | _ => none }
def FnOrdersWrongFalsely : Prop := fnOrdersRow.holds Try.pinned (OpenSpec.ofChange fnOrdersWrong)

/- THE SECOND FORM. 'bulk': how many values and letters a reading holds, each counted each time it is reached (what is shared counts as often as it is met; a slice's spare places count too). A statement '..UptoSaid' is the law's where the arguments, and the package variables that the reading takes, are together of bulk at most 1048576: NARROWER than '..Said'. Prove '..Said' where nothing that the law and all that it calls make is longer than what came in: it says more and counts as full. Else prove '..UptoSaid'. A law counts once. -/
mutual
def uptoBulk {H : Type} : DataW H → Nat
  | .lit (.string bytes) => bytes.length + 1
  | .lit _ => 1
  | .nil => 1
  | .ptr d => uptoBulk d + 1
  | .slice elems spare => uptoBulkAll elems + uptoBulkAll spare + 1
  | .agg parts => uptoBulkAll parts + 1
  | .iface _ d => uptoBulk d + 1
  | .map entries => uptoBulkEntries entries + 1
  | .held _ => 1
def uptoBulkAll {H : Type} : List (DataW H) → Nat
  | [] => 0
  | d :: r => uptoBulk d + uptoBulkAll r
def uptoBulkEntries {H : Type} : List (Lit × DataW H) → Nat
  | [] => 0
  | x :: r => uptoBulkEntry x + uptoBulkEntries r
def uptoBulkEntry {H : Type} : Lit × DataW H → Nat
  | (.string bytes, d) => bytes.length + uptoBulk d + 1
  | (_, d) => uptoBulk d + 1
 end
def uptoSmall : (H : Type) → List (DataW H) → Bool := fun _ ds => decide (uptoBulkAll ds ≤ 1048576)
def OpenSpec.upto (s : _root_.Go.ChangeSpec) : _root_.Go.OpenSpec := { _root_.Go.OpenSpec.ofChange s with cond := some uptoSmall }

/-- 'laws.FnExactOnObject', WHERE WHAT IT READS IS OF BULK AT MOST 1048576: true; the input reads as it did. -/
def fnExactOnObjectUptoRow : OpenClaim := { program := "ytddkoiapboeemaa", sum := "e5f182f1b66c74cd5ed09efb409daa6a3962f8ca118341f3f0163143faddf496", func := "loop.example/g00361/laws.FnExactOnObject", spec := "fnExactOnObject", unfollowed := true, recurses := true, apart := false, narrowed := true }
def FnExactOnObjectUptoSaid : Prop := fnExactOnObjectUptoRow.holds Try.pinned (OpenSpec.upto fnExactOnObjectSpec)

/-- 'laws.FnExactIsSequential', WHERE WHAT IT READS IS OF BULK AT MOST 1048576: true; the input reads as it did. -/
def fnExactIsSequentialUptoRow : OpenClaim := { program := "ytddkoiapboeemaa", sum := "e5f182f1b66c74cd5ed09efb409daa6a3962f8ca118341f3f0163143faddf496", func := "loop.example/g00361/laws.FnExactIsSequential", spec := "fnExactIsSequential", unfollowed := true, recurses := true, apart := false, narrowed := true }
def FnExactIsSequentialUptoSaid : Prop := fnExactIsSequentialUptoRow.holds Try.pinned (OpenSpec.upto fnExactIsSequentialSpec)

/-- 'laws.FnExactIsLinear', WHERE WHAT IT READS IS OF BULK AT MOST 1048576: true; the input reads as it did. -/
def fnExactIsLinearUptoRow : OpenClaim := { program := "ytddkoiapboeemaa", sum := "e5f182f1b66c74cd5ed09efb409daa6a3962f8ca118341f3f0163143faddf496", func := "loop.example/g00361/laws.FnExactIsLinear", spec := "fnExactIsLinear", unfollowed := true, recurses := true, apart := false, narrowed := true }
def FnExactIsLinearUptoSaid : Prop := fnExactIsLinearUptoRow.holds Try.pinned (OpenSpec.upto fnExactIsLinearSpec)

/-- 'laws.FnExactOrderFor', WHERE WHAT IT READS IS OF BULK AT MOST 1048576: true; the input reads as it did. -/
def fnExactOrderForUptoRow : OpenClaim := { program := "ytddkoiapboeemaa", sum := "e5f182f1b66c74cd5ed09efb409daa6a3962f8ca118341f3f0163143faddf496", func := "loop.example/g00361/laws.FnExactOrderFor", spec := "fnExactOrderFor", unfollowed := true, recurses := true, apart := false, narrowed := true }
def FnExactOrderForUptoSaid : Prop := fnExactOrderForUptoRow.holds Try.pinned (OpenSpec.upto fnExactOrderForSpec)

/-- 'laws.FnExactRespectsTime', WHERE WHAT IT READS IS OF BULK AT MOST 1048576: true; the input reads as it did. -/
def fnExactRespectsTimeUptoRow : OpenClaim := { program := "ytddkoiapboeemaa", sum := "e5f182f1b66c74cd5ed09efb409daa6a3962f8ca118341f3f0163143faddf496", func := "loop.example/g00361/laws.FnExactRespectsTime", spec := "fnExactRespectsTime", unfollowed := true, recurses := true, apart := false, narrowed := true }
def FnExactRespectsTimeUptoSaid : Prop := fnExactRespectsTimeUptoRow.holds Try.pinned (OpenSpec.upto fnExactRespectsTimeSpec)

/-- 'laws.FnExactIsLegal', WHERE WHAT IT READS IS OF BULK AT MOST 1048576: true; the input reads as it did. -/
def fnExactIsLegalUptoRow : OpenClaim := { program := "ytddkoiapboeemaa", sum := "e5f182f1b66c74cd5ed09efb409daa6a3962f8ca118341f3f0163143faddf496", func := "loop.example/g00361/laws.FnExactIsLegal", spec := "fnExactIsLegal", recurses := true, apart := false, narrowed := true }
def FnExactIsLegalUptoSaid : Prop := fnExactIsLegalUptoRow.holds Try.pinned (OpenSpec.upto fnExactIsLegalSpec)

/-- 'laws.FnLinear', WHERE WHAT IT READS IS OF BULK AT MOST 1048576: true; the input reads as it did. -/
def fnLinearUptoRow : OpenClaim := { program := "ytddkoiapboeemaa", sum := "e5f182f1b66c74cd5ed09efb409daa6a3962f8ca118341f3f0163143faddf496", func := "loop.example/g00361/laws.FnLinear", spec := "fnLinear", unfollowed := true, recurses := true, apart := false, narrowed := true }
def FnLinearUptoSaid : Prop := fnLinearUptoRow.holds Try.pinned (OpenSpec.upto fnLinearSpec)

/-- 'laws.FnOrders', WHERE WHAT IT READS IS OF BULK AT MOST 1048576: true; the input reads as it did. -/
def fnOrdersUptoRow : OpenClaim := { program := "ytddkoiapboeemaa", sum := "e5f182f1b66c74cd5ed09efb409daa6a3962f8ca118341f3f0163143faddf496", func := "loop.example/g00361/laws.FnOrders", spec := "fnOrders", unfollowed := true, recurses := true, apart := false, narrowed := true }
def FnOrdersUptoSaid : Prop := fnOrdersUptoRow.holds Try.pinned (OpenSpec.upto fnOrdersSpec)

end Rows
end Go.Proofs.Ytddkoiapboeemaa
