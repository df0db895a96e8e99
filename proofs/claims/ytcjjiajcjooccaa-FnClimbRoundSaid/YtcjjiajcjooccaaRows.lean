/-
  No cell of these rows narrows 'for every input' (looked for: loops, veiled, ifaces, maps, wideKeys, modest, calm, conditions, laid).
  DERIVED. THE GIVEN ROWS OF THIS SEAT. 10 by the template 'for every input the law returns true; each argument reads behind the call as it read before'; 0 by the template 'total and deterministic' (their statements: YtcjjiajcjooccaaTotals.lean).
  GIVEN WITH THE SEED: the statements are not yours to turn. If you find one false, say at which input.
  Laid BY PROGRAM, IN A SANDBOX (cutbox-rows.mjs): the forced cells as the released guide's own fill.sh prints them over the translation 81910fb7df8ea523… (all of the seat's roots in one cut). By AI agents, Wed Nov 11 2026. No macro, syntax, notation, axiom, sorry.
-/
import Derived.Test.YtcjjiajcjooccaaChecked
import GoSem.Claim
import GoSem.ClaimJoined
import GoSem.ClaimMapViews
import Derived.JoinedTies
import Derived.KernelRfl
namespace Go.Proofs.Ytcjjiajcjooccaa
/- THE CELL 'sum', in the pinned program and in every row, IS THE sha256 OF THE DUMP (.gsa) THAT YtcjjiajcjooccaaProg.lean LOADS. Nothing in Lean hashes anything: it is a label: what it is worth is what the hold of that sum in a sandbox is worth. -/
noncomputable def Try.pinned : Pinned := { name := "ytcjjiajcjooccaa", sum := "81910fb7df8ea5239cc604416c7ac469e53090b0349a04752fe852e577dd1e05", checked := Try.checked }
namespace Rows
def none {H : Type} : Left H := { results := [], args := [] }

/-- 'laws.FnClimbParts': WHATEVER THE INPUT: true; the input reads as it did. -/
def fnClimbPartsSpec : ChangeSpec := { name := "fnClimbParts", fn := fun _ => fun
  | [d] => { results := [.lit (.bool true)], args := [d] }
  | _ => none }
def fnClimbPartsRow : OpenClaim := { program := "ytcjjiajcjooccaa", sum := "81910fb7df8ea5239cc604416c7ac469e53090b0349a04752fe852e577dd1e05", func := "loop.example/firingnets/laws.FnClimbParts", spec := "fnClimbParts", apart := false }
def FnClimbPartsSaid : Prop := fnClimbPartsRow.holds Try.pinned (OpenSpec.ofChange fnClimbPartsSpec)

/-- ITS FALSE NEIGHBOUR: 'it returns false'. Refute it at one input. -/
def fnClimbPartsWrong : ChangeSpec := { name := "fnClimbParts", fn := fun _ => fun
  | [d] => { results := [.lit (.bool false)], args := [d] }
  | _ => none }
def FnClimbPartsWrongFalsely : Prop := fnClimbPartsRow.holds Try.pinned (OpenSpec.ofChange fnClimbPartsWrong)

/-- 'laws.FnClimbRound': WHATEVER THE INPUT: true; the input reads as it did. -/
def fnClimbRoundSpec : ChangeSpec := { name := "fnClimbRound", fn := fun _ => fun
  | [d] => { results := [.lit (.bool true)], args := [d] }
  | _ => none }
def fnClimbRoundRow : OpenClaim := { program := "ytcjjiajcjooccaa", sum := "81910fb7df8ea5239cc604416c7ac469e53090b0349a04752fe852e577dd1e05", func := "loop.example/firingnets/laws.FnClimbRound", spec := "fnClimbRound", apart := false }
def FnClimbRoundSaid : Prop := fnClimbRoundRow.holds Try.pinned (OpenSpec.ofChange fnClimbRoundSpec)

/-- ITS FALSE NEIGHBOUR: 'it returns false'. Refute it at one input. -/
def fnClimbRoundWrong : ChangeSpec := { name := "fnClimbRound", fn := fun _ => fun
  | [d] => { results := [.lit (.bool false)], args := [d] }
  | _ => none }
def FnClimbRoundWrongFalsely : Prop := fnClimbRoundRow.holds Try.pinned (OpenSpec.ofChange fnClimbRoundWrong)

/-- 'laws.FnTwoWaves': WHATEVER THE INPUT: true; the input reads as it did. -/
def fnTwoWavesSpec : ChangeSpec := { name := "fnTwoWaves", fn := fun _ => fun
  | [d] => { results := [.lit (.bool true)], args := [d] }
  | _ => none }
def fnTwoWavesRow : OpenClaim := { program := "ytcjjiajcjooccaa", sum := "81910fb7df8ea5239cc604416c7ac469e53090b0349a04752fe852e577dd1e05", func := "loop.example/firingnets/laws.FnTwoWaves", spec := "fnTwoWaves", apart := false }
def FnTwoWavesSaid : Prop := fnTwoWavesRow.holds Try.pinned (OpenSpec.ofChange fnTwoWavesSpec)

/-- ITS FALSE NEIGHBOUR: 'it returns false'. Refute it at one input. -/
def fnTwoWavesWrong : ChangeSpec := { name := "fnTwoWaves", fn := fun _ => fun
  | [d] => { results := [.lit (.bool false)], args := [d] }
  | _ => none }
def FnTwoWavesWrongFalsely : Prop := fnTwoWavesRow.holds Try.pinned (OpenSpec.ofChange fnTwoWavesWrong)

/-- 'laws.FnTurnRun': WHATEVER THE INPUT: true; the input reads as it did. -/
def fnTurnRunSpec : ChangeSpec := { name := "fnTurnRun", fn := fun _ => fun
  | [d] => { results := [.lit (.bool true)], args := [d] }
  | _ => none }
def fnTurnRunRow : OpenClaim := { program := "ytcjjiajcjooccaa", sum := "81910fb7df8ea5239cc604416c7ac469e53090b0349a04752fe852e577dd1e05", func := "loop.example/firingnets/laws.FnTurnRun", spec := "fnTurnRun", apart := false }
def FnTurnRunSaid : Prop := fnTurnRunRow.holds Try.pinned (OpenSpec.ofChange fnTurnRunSpec)

/-- ITS FALSE NEIGHBOUR: 'it returns false'. Refute it at one input. -/
def fnTurnRunWrong : ChangeSpec := { name := "fnTurnRun", fn := fun _ => fun
  | [d] => { results := [.lit (.bool false)], args := [d] }
  | _ => none }
def FnTurnRunWrongFalsely : Prop := fnTurnRunRow.holds Try.pinned (OpenSpec.ofChange fnTurnRunWrong)

/-- 'laws.FnTurnStep': WHATEVER THE INPUT: true; the input reads as it did. -/
def fnTurnStepSpec : ChangeSpec := { name := "fnTurnStep", fn := fun _ => fun
  | [d] => { results := [.lit (.bool true)], args := [d] }
  | _ => none }
def fnTurnStepRow : OpenClaim := { program := "ytcjjiajcjooccaa", sum := "81910fb7df8ea5239cc604416c7ac469e53090b0349a04752fe852e577dd1e05", func := "loop.example/firingnets/laws.FnTurnStep", spec := "fnTurnStep", apart := false }
def FnTurnStepSaid : Prop := fnTurnStepRow.holds Try.pinned (OpenSpec.ofChange fnTurnStepSpec)

/-- ITS FALSE NEIGHBOUR: 'it returns false'. Refute it at one input. -/
def fnTurnStepWrong : ChangeSpec := { name := "fnTurnStep", fn := fun _ => fun
  | [d] => { results := [.lit (.bool false)], args := [d] }
  | _ => none }
def FnTurnStepWrongFalsely : Prop := fnTurnStepRow.holds Try.pinned (OpenSpec.ofChange fnTurnStepWrong)

/-- 'laws.FnWindTwice': WHATEVER THE INPUT: true; the input reads as it did. -/
def fnWindTwiceSpec : ChangeSpec := { name := "fnWindTwice", fn := fun _ => fun
  | [d] => { results := [.lit (.bool true)], args := [d] }
  | _ => none }
def fnWindTwiceRow : OpenClaim := { program := "ytcjjiajcjooccaa", sum := "81910fb7df8ea5239cc604416c7ac469e53090b0349a04752fe852e577dd1e05", func := "loop.example/firingnets/laws.FnWindTwice", spec := "fnWindTwice", apart := false }
def FnWindTwiceSaid : Prop := fnWindTwiceRow.holds Try.pinned (OpenSpec.ofChange fnWindTwiceSpec)

/-- ITS FALSE NEIGHBOUR: 'it returns false'. Refute it at one input. -/
def fnWindTwiceWrong : ChangeSpec := { name := "fnWindTwice", fn := fun _ => fun
  | [d] => { results := [.lit (.bool false)], args := [d] }
  | _ => none }
def FnWindTwiceWrongFalsely : Prop := fnWindTwiceRow.holds Try.pinned (OpenSpec.ofChange fnWindTwiceWrong)

/-- 'laws.FnClimbOf': WHATEVER THE INPUT: true; the input reads as it did. -/
def fnClimbOfSpec : ChangeSpec := { name := "fnClimbOf", fn := fun _ => fun
  | [d] => { results := [.lit (.bool true)], args := [d] }
  | _ => none }
def fnClimbOfRow : OpenClaim := { program := "ytcjjiajcjooccaa", sum := "81910fb7df8ea5239cc604416c7ac469e53090b0349a04752fe852e577dd1e05", func := "loop.example/firingnets/laws.FnClimbOf", spec := "fnClimbOf", apart := false }
def FnClimbOfSaid : Prop := fnClimbOfRow.holds Try.pinned (OpenSpec.ofChange fnClimbOfSpec)

/-- ITS FALSE NEIGHBOUR: 'it returns false'. Refute it at one input. -/
def fnClimbOfWrong : ChangeSpec := { name := "fnClimbOf", fn := fun _ => fun
  | [d] => { results := [.lit (.bool false)], args := [d] }
  | _ => none }
def FnClimbOfWrongFalsely : Prop := fnClimbOfRow.holds Try.pinned (OpenSpec.ofChange fnClimbOfWrong)

/-- 'laws.FnTurnedParts': WHATEVER THE INPUT: true; the input reads as it did. -/
def fnTurnedPartsSpec : ChangeSpec := { name := "fnTurnedParts", fn := fun _ => fun
  | [d] => { results := [.lit (.bool true)], args := [d] }
  | _ => none }
def fnTurnedPartsRow : OpenClaim := { program := "ytcjjiajcjooccaa", sum := "81910fb7df8ea5239cc604416c7ac469e53090b0349a04752fe852e577dd1e05", func := "loop.example/firingnets/laws.FnTurnedParts", spec := "fnTurnedParts", apart := false }
def FnTurnedPartsSaid : Prop := fnTurnedPartsRow.holds Try.pinned (OpenSpec.ofChange fnTurnedPartsSpec)

/-- ITS FALSE NEIGHBOUR: 'it returns false'. Refute it at one input. -/
def fnTurnedPartsWrong : ChangeSpec := { name := "fnTurnedParts", fn := fun _ => fun
  | [d] => { results := [.lit (.bool false)], args := [d] }
  | _ => none }
def FnTurnedPartsWrongFalsely : Prop := fnTurnedPartsRow.holds Try.pinned (OpenSpec.ofChange fnTurnedPartsWrong)

/-- 'laws.FnTurnedRow': WHATEVER THE INPUT: true; the input reads as it did. -/
def fnTurnedRowSpec : ChangeSpec := { name := "fnTurnedRow", fn := fun _ => fun
  | [d] => { results := [.lit (.bool true)], args := [d] }
  | _ => none }
def fnTurnedRowRow : OpenClaim := { program := "ytcjjiajcjooccaa", sum := "81910fb7df8ea5239cc604416c7ac469e53090b0349a04752fe852e577dd1e05", func := "loop.example/firingnets/laws.FnTurnedRow", spec := "fnTurnedRow", apart := false }
def FnTurnedRowSaid : Prop := fnTurnedRowRow.holds Try.pinned (OpenSpec.ofChange fnTurnedRowSpec)

/-- ITS FALSE NEIGHBOUR: 'it returns false'. Refute it at one input. -/
def fnTurnedRowWrong : ChangeSpec := { name := "fnTurnedRow", fn := fun _ => fun
  | [d] => { results := [.lit (.bool false)], args := [d] }
  | _ => none }
def FnTurnedRowWrongFalsely : Prop := fnTurnedRowRow.holds Try.pinned (OpenSpec.ofChange fnTurnedRowWrong)

/-- 'laws.FnMostClimb': WHATEVER THE INPUT: true; the input reads as it did. -/
def fnMostClimbSpec : ChangeSpec := { name := "fnMostClimb", fn := fun _ => fun
  | [d] => { results := [.lit (.bool true)], args := [d] }
  | _ => none }
def fnMostClimbRow : OpenClaim := { program := "ytcjjiajcjooccaa", sum := "81910fb7df8ea5239cc604416c7ac469e53090b0349a04752fe852e577dd1e05", func := "loop.example/firingnets/laws.FnMostClimb", spec := "fnMostClimb", apart := false }
def FnMostClimbSaid : Prop := fnMostClimbRow.holds Try.pinned (OpenSpec.ofChange fnMostClimbSpec)

/-- ITS FALSE NEIGHBOUR: 'it returns false'. Refute it at one input. -/
def fnMostClimbWrong : ChangeSpec := { name := "fnMostClimb", fn := fun _ => fun
  | [d] => { results := [.lit (.bool false)], args := [d] }
  | _ => none }
def FnMostClimbWrongFalsely : Prop := fnMostClimbRow.holds Try.pinned (OpenSpec.ofChange fnMostClimbWrong)

/- THE SECOND FORM. 'bulk': how many values and letters a reading holds, each counted each time it is reached (what is shared counts as often as it is met; a slice's spare places count too). A statement '..UptoSaid' is the law's where the arguments, and the package variables that the reading takes, are together of bulk at most 1048576: NARROWER than '..Said'. Prove '..Said' where nothing that the law and all that it calls make is longer than what came in: it says more and counts as full. Else prove '..UptoSaid'. A law counts once. -/
mutual
def uptoBulk {H : Type} : DataW H → Nat
  | .lit (.string bytes) => bytes.length + 1
  | .lit _ => 1
  | .nil => 1
  | .ptr d => uptoBulk d + 1
  | .slice elems spare => uptoBulkAll elems + uptoBulkAll spare + 1
  | .agg parts => uptoBulkAll parts + 1
  | .iface _ d => uptoBulk d + 1
  | .map entries => uptoBulkEntries entries + 1
  | .held _ => 1
def uptoBulkAll {H : Type} : List (DataW H) → Nat
  | [] => 0
  | d :: r => uptoBulk d + uptoBulkAll r
def uptoBulkEntries {H : Type} : List (Lit × DataW H) → Nat
  | [] => 0
  | x :: r => uptoBulkEntry x + uptoBulkEntries r
def uptoBulkEntry {H : Type} : Lit × DataW H → Nat
  | (.string bytes, d) => bytes.length + uptoBulk d + 1
  | (_, d) => uptoBulk d + 1
 end
def uptoSmall : (H : Type) → List (DataW H) → Bool := fun _ ds => decide (uptoBulkAll ds ≤ 1048576)
def OpenSpec.upto (s : _root_.Go.ChangeSpec) : _root_.Go.OpenSpec := { _root_.Go.OpenSpec.ofChange s with cond := some uptoSmall }

/-- 'laws.FnClimbParts', WHERE WHAT IT READS IS OF BULK AT MOST 1048576: true; the input reads as it did. -/
def fnClimbPartsUptoRow : OpenClaim := { program := "ytcjjiajcjooccaa", sum := "81910fb7df8ea5239cc604416c7ac469e53090b0349a04752fe852e577dd1e05", func := "loop.example/firingnets/laws.FnClimbParts", spec := "fnClimbParts", apart := false, narrowed := true }
def FnClimbPartsUptoSaid : Prop := fnClimbPartsUptoRow.holds Try.pinned (OpenSpec.upto fnClimbPartsSpec)

/-- 'laws.FnClimbRound', WHERE WHAT IT READS IS OF BULK AT MOST 1048576: true; the input reads as it did. -/
def fnClimbRoundUptoRow : OpenClaim := { program := "ytcjjiajcjooccaa", sum := "81910fb7df8ea5239cc604416c7ac469e53090b0349a04752fe852e577dd1e05", func := "loop.example/firingnets/laws.FnClimbRound", spec := "fnClimbRound", apart := false, narrowed := true }
def FnClimbRoundUptoSaid : Prop := fnClimbRoundUptoRow.holds Try.pinned (OpenSpec.upto fnClimbRoundSpec)

/-- 'laws.FnTwoWaves', WHERE WHAT IT READS IS OF BULK AT MOST 1048576: true; the input reads as it did. -/
def fnTwoWavesUptoRow : OpenClaim := { program := "ytcjjiajcjooccaa", sum := "81910fb7df8ea5239cc604416c7ac469e53090b0349a04752fe852e577dd1e05", func := "loop.example/firingnets/laws.FnTwoWaves", spec := "fnTwoWaves", apart := false, narrowed := true }
def FnTwoWavesUptoSaid : Prop := fnTwoWavesUptoRow.holds Try.pinned (OpenSpec.upto fnTwoWavesSpec)

/-- 'laws.FnTurnRun', WHERE WHAT IT READS IS OF BULK AT MOST 1048576: true; the input reads as it did. -/
def fnTurnRunUptoRow : OpenClaim := { program := "ytcjjiajcjooccaa", sum := "81910fb7df8ea5239cc604416c7ac469e53090b0349a04752fe852e577dd1e05", func := "loop.example/firingnets/laws.FnTurnRun", spec := "fnTurnRun", apart := false, narrowed := true }
def FnTurnRunUptoSaid : Prop := fnTurnRunUptoRow.holds Try.pinned (OpenSpec.upto fnTurnRunSpec)

/-- 'laws.FnTurnStep', WHERE WHAT IT READS IS OF BULK AT MOST 1048576: true; the input reads as it did. -/
def fnTurnStepUptoRow : OpenClaim := { program := "ytcjjiajcjooccaa", sum := "81910fb7df8ea5239cc604416c7ac469e53090b0349a04752fe852e577dd1e05", func := "loop.example/firingnets/laws.FnTurnStep", spec := "fnTurnStep", apart := false, narrowed := true }
def FnTurnStepUptoSaid : Prop := fnTurnStepUptoRow.holds Try.pinned (OpenSpec.upto fnTurnStepSpec)

/-- 'laws.FnWindTwice', WHERE WHAT IT READS IS OF BULK AT MOST 1048576: true; the input reads as it did. -/
def fnWindTwiceUptoRow : OpenClaim := { program := "ytcjjiajcjooccaa", sum := "81910fb7df8ea5239cc604416c7ac469e53090b0349a04752fe852e577dd1e05", func := "loop.example/firingnets/laws.FnWindTwice", spec := "fnWindTwice", apart := false, narrowed := true }
def FnWindTwiceUptoSaid : Prop := fnWindTwiceUptoRow.holds Try.pinned (OpenSpec.upto fnWindTwiceSpec)

/-- 'laws.FnClimbOf', WHERE WHAT IT READS IS OF BULK AT MOST 1048576: true; the input reads as it did. -/
def fnClimbOfUptoRow : OpenClaim := { program := "ytcjjiajcjooccaa", sum := "81910fb7df8ea5239cc604416c7ac469e53090b0349a04752fe852e577dd1e05", func := "loop.example/firingnets/laws.FnClimbOf", spec := "fnClimbOf", apart := false, narrowed := true }
def FnClimbOfUptoSaid : Prop := fnClimbOfUptoRow.holds Try.pinned (OpenSpec.upto fnClimbOfSpec)

/-- 'laws.FnTurnedParts', WHERE WHAT IT READS IS OF BULK AT MOST 1048576: true; the input reads as it did. -/
def fnTurnedPartsUptoRow : OpenClaim := { program := "ytcjjiajcjooccaa", sum := "81910fb7df8ea5239cc604416c7ac469e53090b0349a04752fe852e577dd1e05", func := "loop.example/firingnets/laws.FnTurnedParts", spec := "fnTurnedParts", apart := false, narrowed := true }
def FnTurnedPartsUptoSaid : Prop := fnTurnedPartsUptoRow.holds Try.pinned (OpenSpec.upto fnTurnedPartsSpec)

/-- 'laws.FnTurnedRow', WHERE WHAT IT READS IS OF BULK AT MOST 1048576: true; the input reads as it did. -/
def fnTurnedRowUptoRow : OpenClaim := { program := "ytcjjiajcjooccaa", sum := "81910fb7df8ea5239cc604416c7ac469e53090b0349a04752fe852e577dd1e05", func := "loop.example/firingnets/laws.FnTurnedRow", spec := "fnTurnedRow", apart := false, narrowed := true }
def FnTurnedRowUptoSaid : Prop := fnTurnedRowUptoRow.holds Try.pinned (OpenSpec.upto fnTurnedRowSpec)

/-- 'laws.FnMostClimb', WHERE WHAT IT READS IS OF BULK AT MOST 1048576: true; the input reads as it did. -/
def fnMostClimbUptoRow : OpenClaim := { program := "ytcjjiajcjooccaa", sum := "81910fb7df8ea5239cc604416c7ac469e53090b0349a04752fe852e577dd1e05", func := "loop.example/firingnets/laws.FnMostClimb", spec := "fnMostClimb", apart := false, narrowed := true }
def FnMostClimbUptoSaid : Prop := fnMostClimbUptoRow.holds Try.pinned (OpenSpec.upto fnMostClimbSpec)

end Rows
end Go.Proofs.Ytcjjiajcjooccaa
