/-
  No cell of these rows narrows 'for every input' (looked for: loops, veiled, ifaces, maps, wideKeys, modest, calm, conditions, laid).
  DERIVED. THE GIVEN ROWS OF THIS SEAT. 11 by the template 'for every input the law returns true; each argument reads behind the call as it read before'; 0 by the template 'total and deterministic' (their statements: YtokhnnhinafnfaaTotals.lean).
  GIVEN WITH THE SEED: the statements are not yours to turn. If you find one false, say at which input.
  Laid BY PROGRAM, IN A SANDBOX (cutbox-rows.mjs): the forced cells as the released guide's own fill.sh prints them over the translation 42d295c555cefa59… (all of the seat's roots in one cut). By AI agents, Wed Nov 11 2026. No macro, syntax, notation, axiom, sorry.
-/
import Derived.Test.YtokhnnhinafnfaaChecked
import GoSem.Claim
import GoSem.ClaimJoined
import GoSem.ClaimMapViews
import Derived.JoinedTies
import Derived.KernelRfl
namespace Go.Proofs.Ytokhnnhinafnfaa
/- THE CELL 'sum', in the pinned program and in every row, IS THE sha256 OF THE DUMP (.gsa) THAT YtokhnnhinafnfaaProg.lean LOADS. Nothing in Lean hashes anything: it is a label: what it is worth is what the hold of that sum in a sandbox is worth. -/
noncomputable def Try.pinned : Pinned := { name := "ytokhnnhinafnfaa", sum := "42d295c555cefa597c14ff05692976fb9dadc82c0bf202c34e2649ef0629ec97", checked := Try.checked }
namespace Rows
def none {H : Type} : Left H := { results := [], args := [] }

/-- 'laws.FnExactClimbOf': WHATEVER THE INPUT: true; the input reads as it did. -/
def fnExactClimbOfSpec : ChangeSpec := { name := "fnExactClimbOf", fn := fun _ => fun
  | [d1, d2, d3] => { results := [.lit (.bool true)], args := [d1, d2, d3] }
  | _ => none }
def fnExactClimbOfRow : OpenClaim := { program := "ytokhnnhinafnfaa", sum := "42d295c555cefa597c14ff05692976fb9dadc82c0bf202c34e2649ef0629ec97", func := "loop.example/firingnets/laws.FnExactClimbOf", spec := "fnExactClimbOf", apart := false }
def FnExactClimbOfSaid : Prop := fnExactClimbOfRow.holds Try.pinned (OpenSpec.ofChange fnExactClimbOfSpec)

/-- ITS FALSE NEIGHBOUR: 'it returns false'. Refute it at one input. -/
def fnExactClimbOfWrong : ChangeSpec := { name := "fnExactClimbOf", fn := fun _ => fun
  | [d1, d2, d3] => { results := [.lit (.bool false)], args := [d1, d2, d3] }
  | _ => none }
def FnExactClimbOfWrongFalsely : Prop := fnExactClimbOfRow.holds Try.pinned (OpenSpec.ofChange fnExactClimbOfWrong)

/-- 'laws.FnExactStillOk': WHATEVER THE INPUT: true; the input reads as it did. -/
def fnExactStillOkSpec : ChangeSpec := { name := "fnExactStillOk", fn := fun _ => fun
  | [d1, d2] => { results := [.lit (.bool true)], args := [d1, d2] }
  | _ => none }
def fnExactStillOkRow : OpenClaim := { program := "ytokhnnhinafnfaa", sum := "42d295c555cefa597c14ff05692976fb9dadc82c0bf202c34e2649ef0629ec97", func := "loop.example/firingnets/laws.FnExactStillOk", spec := "fnExactStillOk", apart := false }
def FnExactStillOkSaid : Prop := fnExactStillOkRow.holds Try.pinned (OpenSpec.ofChange fnExactStillOkSpec)

/-- ITS FALSE NEIGHBOUR: 'it returns false'. Refute it at one input. -/
def fnExactStillOkWrong : ChangeSpec := { name := "fnExactStillOk", fn := fun _ => fun
  | [d1, d2] => { results := [.lit (.bool false)], args := [d1, d2] }
  | _ => none }
def FnExactStillOkWrongFalsely : Prop := fnExactStillOkRow.holds Try.pinned (OpenSpec.ofChange fnExactStillOkWrong)

/-- 'laws.FnExactTurnStep': WHATEVER THE INPUT: true; the input reads as it did. -/
def fnExactTurnStepSpec : ChangeSpec := { name := "fnExactTurnStep", fn := fun _ => fun
  | [d1, d2] => { results := [.lit (.bool true)], args := [d1, d2] }
  | _ => none }
def fnExactTurnStepRow : OpenClaim := { program := "ytokhnnhinafnfaa", sum := "42d295c555cefa597c14ff05692976fb9dadc82c0bf202c34e2649ef0629ec97", func := "loop.example/firingnets/laws.FnExactTurnStep", spec := "fnExactTurnStep", apart := false }
def FnExactTurnStepSaid : Prop := fnExactTurnStepRow.holds Try.pinned (OpenSpec.ofChange fnExactTurnStepSpec)

/-- ITS FALSE NEIGHBOUR: 'it returns false'. Refute it at one input. -/
def fnExactTurnStepWrong : ChangeSpec := { name := "fnExactTurnStep", fn := fun _ => fun
  | [d1, d2] => { results := [.lit (.bool false)], args := [d1, d2] }
  | _ => none }
def FnExactTurnStepWrongFalsely : Prop := fnExactTurnStepRow.holds Try.pinned (OpenSpec.ofChange fnExactTurnStepWrong)

/-- 'laws.FnExactMostClimb': WHATEVER THE INPUT: true; the input reads as it did. -/
def fnExactMostClimbSpec : ChangeSpec := { name := "fnExactMostClimb", fn := fun _ => fun
  | [d1, d2, d3] => { results := [.lit (.bool true)], args := [d1, d2, d3] }
  | _ => none }
def fnExactMostClimbRow : OpenClaim := { program := "ytokhnnhinafnfaa", sum := "42d295c555cefa597c14ff05692976fb9dadc82c0bf202c34e2649ef0629ec97", func := "loop.example/firingnets/laws.FnExactMostClimb", spec := "fnExactMostClimb", apart := false }
def FnExactMostClimbSaid : Prop := fnExactMostClimbRow.holds Try.pinned (OpenSpec.ofChange fnExactMostClimbSpec)

/-- ITS FALSE NEIGHBOUR: 'it returns false'. Refute it at one input. -/
def fnExactMostClimbWrong : ChangeSpec := { name := "fnExactMostClimb", fn := fun _ => fun
  | [d1, d2, d3] => { results := [.lit (.bool false)], args := [d1, d2, d3] }
  | _ => none }
def FnExactMostClimbWrongFalsely : Prop := fnExactMostClimbRow.holds Try.pinned (OpenSpec.ofChange fnExactMostClimbWrong)

/-- 'laws.FnExactWindingOf': WHATEVER THE INPUT: true; the input reads as it did. -/
def fnExactWindingOfSpec : ChangeSpec := { name := "fnExactWindingOf", fn := fun _ => fun
  | [d1, d2, d3] => { results := [.lit (.bool true)], args := [d1, d2, d3] }
  | _ => none }
def fnExactWindingOfRow : OpenClaim := { program := "ytokhnnhinafnfaa", sum := "42d295c555cefa597c14ff05692976fb9dadc82c0bf202c34e2649ef0629ec97", func := "loop.example/firingnets/laws.FnExactWindingOf", spec := "fnExactWindingOf", apart := false }
def FnExactWindingOfSaid : Prop := fnExactWindingOfRow.holds Try.pinned (OpenSpec.ofChange fnExactWindingOfSpec)

/-- ITS FALSE NEIGHBOUR: 'it returns false'. Refute it at one input. -/
def fnExactWindingOfWrong : ChangeSpec := { name := "fnExactWindingOf", fn := fun _ => fun
  | [d1, d2, d3] => { results := [.lit (.bool false)], args := [d1, d2, d3] }
  | _ => none }
def FnExactWindingOfWrongFalsely : Prop := fnExactWindingOfRow.holds Try.pinned (OpenSpec.ofChange fnExactWindingOfWrong)

/-- 'laws.FnExactTurnRun': WHATEVER THE INPUT: true; the input reads as it did. -/
def fnExactTurnRunSpec : ChangeSpec := { name := "fnExactTurnRun", fn := fun _ => fun
  | [d1, d2, d3] => { results := [.lit (.bool true)], args := [d1, d2, d3] }
  | _ => none }
def fnExactTurnRunRow : OpenClaim := { program := "ytokhnnhinafnfaa", sum := "42d295c555cefa597c14ff05692976fb9dadc82c0bf202c34e2649ef0629ec97", func := "loop.example/firingnets/laws.FnExactTurnRun", spec := "fnExactTurnRun", apart := false }
def FnExactTurnRunSaid : Prop := fnExactTurnRunRow.holds Try.pinned (OpenSpec.ofChange fnExactTurnRunSpec)

/-- ITS FALSE NEIGHBOUR: 'it returns false'. Refute it at one input. -/
def fnExactTurnRunWrong : ChangeSpec := { name := "fnExactTurnRun", fn := fun _ => fun
  | [d1, d2, d3] => { results := [.lit (.bool false)], args := [d1, d2, d3] }
  | _ => none }
def FnExactTurnRunWrongFalsely : Prop := fnExactTurnRunRow.holds Try.pinned (OpenSpec.ofChange fnExactTurnRunWrong)

/-- 'laws.FnExactTurnedRow': WHATEVER THE INPUT: true; the input reads as it did. -/
def fnExactTurnedRowSpec : ChangeSpec := { name := "fnExactTurnedRow", fn := fun _ => fun
  | [d1, d2, d3] => { results := [.lit (.bool true)], args := [d1, d2, d3] }
  | _ => none }
def fnExactTurnedRowRow : OpenClaim := { program := "ytokhnnhinafnfaa", sum := "42d295c555cefa597c14ff05692976fb9dadc82c0bf202c34e2649ef0629ec97", func := "loop.example/firingnets/laws.FnExactTurnedRow", spec := "fnExactTurnedRow", apart := false }
def FnExactTurnedRowSaid : Prop := fnExactTurnedRowRow.holds Try.pinned (OpenSpec.ofChange fnExactTurnedRowSpec)

/-- ITS FALSE NEIGHBOUR: 'it returns false'. Refute it at one input. -/
def fnExactTurnedRowWrong : ChangeSpec := { name := "fnExactTurnedRow", fn := fun _ => fun
  | [d1, d2, d3] => { results := [.lit (.bool false)], args := [d1, d2, d3] }
  | _ => none }
def FnExactTurnedRowWrongFalsely : Prop := fnExactTurnedRowRow.holds Try.pinned (OpenSpec.ofChange fnExactTurnedRowWrong)

/-- 'laws.FnExactFlatOk': WHATEVER THE INPUT: true; the input reads as it did. -/
def fnExactFlatOkSpec : ChangeSpec := { name := "fnExactFlatOk", fn := fun _ => fun
  | [d1, d2] => { results := [.lit (.bool true)], args := [d1, d2] }
  | _ => none }
def fnExactFlatOkRow : OpenClaim := { program := "ytokhnnhinafnfaa", sum := "42d295c555cefa597c14ff05692976fb9dadc82c0bf202c34e2649ef0629ec97", func := "loop.example/firingnets/laws.FnExactFlatOk", spec := "fnExactFlatOk", apart := false }
def FnExactFlatOkSaid : Prop := fnExactFlatOkRow.holds Try.pinned (OpenSpec.ofChange fnExactFlatOkSpec)

/-- ITS FALSE NEIGHBOUR: 'it returns false'. Refute it at one input. -/
def fnExactFlatOkWrong : ChangeSpec := { name := "fnExactFlatOk", fn := fun _ => fun
  | [d1, d2] => { results := [.lit (.bool false)], args := [d1, d2] }
  | _ => none }
def FnExactFlatOkWrongFalsely : Prop := fnExactFlatOkRow.holds Try.pinned (OpenSpec.ofChange fnExactFlatOkWrong)

/-- 'laws.FnExactHeightRow': WHATEVER THE INPUT: true; the input reads as it did. -/
def fnExactHeightRowSpec : ChangeSpec := { name := "fnExactHeightRow", fn := fun _ => fun
  | [d1, d2] => { results := [.lit (.bool true)], args := [d1, d2] }
  | _ => none }
def fnExactHeightRowRow : OpenClaim := { program := "ytokhnnhinafnfaa", sum := "42d295c555cefa597c14ff05692976fb9dadc82c0bf202c34e2649ef0629ec97", func := "loop.example/firingnets/laws.FnExactHeightRow", spec := "fnExactHeightRow", apart := false }
def FnExactHeightRowSaid : Prop := fnExactHeightRowRow.holds Try.pinned (OpenSpec.ofChange fnExactHeightRowSpec)

/-- ITS FALSE NEIGHBOUR: 'it returns false'. Refute it at one input. -/
def fnExactHeightRowWrong : ChangeSpec := { name := "fnExactHeightRow", fn := fun _ => fun
  | [d1, d2] => { results := [.lit (.bool false)], args := [d1, d2] }
  | _ => none }
def FnExactHeightRowWrongFalsely : Prop := fnExactHeightRowRow.holds Try.pinned (OpenSpec.ofChange fnExactHeightRowWrong)

/-- 'laws.FnExactBestTour': WHATEVER THE INPUT: true; the input reads as it did. -/
def fnExactBestTourSpec : ChangeSpec := { name := "fnExactBestTour", fn := fun _ => fun
  | [d1, d2, d3, d4] => { results := [.lit (.bool true)], args := [d1, d2, d3, d4] }
  | _ => none }
def fnExactBestTourRow : OpenClaim := { program := "ytokhnnhinafnfaa", sum := "42d295c555cefa597c14ff05692976fb9dadc82c0bf202c34e2649ef0629ec97", func := "loop.example/firingnets/laws.FnExactBestTour", spec := "fnExactBestTour", apart := false }
def FnExactBestTourSaid : Prop := fnExactBestTourRow.holds Try.pinned (OpenSpec.ofChange fnExactBestTourSpec)

/-- ITS FALSE NEIGHBOUR: 'it returns false'. Refute it at one input. -/
def fnExactBestTourWrong : ChangeSpec := { name := "fnExactBestTour", fn := fun _ => fun
  | [d1, d2, d3, d4] => { results := [.lit (.bool false)], args := [d1, d2, d3, d4] }
  | _ => none }
def FnExactBestTourWrongFalsely : Prop := fnExactBestTourRow.holds Try.pinned (OpenSpec.ofChange fnExactBestTourWrong)

/-- 'laws.FnExactPeakRow': WHATEVER THE INPUT: true; the input reads as it did. -/
def fnExactPeakRowSpec : ChangeSpec := { name := "fnExactPeakRow", fn := fun _ => fun
  | [d1, d2] => { results := [.lit (.bool true)], args := [d1, d2] }
  | _ => none }
def fnExactPeakRowRow : OpenClaim := { program := "ytokhnnhinafnfaa", sum := "42d295c555cefa597c14ff05692976fb9dadc82c0bf202c34e2649ef0629ec97", func := "loop.example/firingnets/laws.FnExactPeakRow", spec := "fnExactPeakRow", apart := false }
def FnExactPeakRowSaid : Prop := fnExactPeakRowRow.holds Try.pinned (OpenSpec.ofChange fnExactPeakRowSpec)

/-- ITS FALSE NEIGHBOUR: 'it returns false'. Refute it at one input. -/
def fnExactPeakRowWrong : ChangeSpec := { name := "fnExactPeakRow", fn := fun _ => fun
  | [d1, d2] => { results := [.lit (.bool false)], args := [d1, d2] }
  | _ => none }
def FnExactPeakRowWrongFalsely : Prop := fnExactPeakRowRow.holds Try.pinned (OpenSpec.ofChange fnExactPeakRowWrong)

/- THE SECOND FORM. 'bulk': how many values and letters a reading holds, each counted each time it is reached (what is shared counts as often as it is met; a slice's spare places count too). A statement '..UptoSaid' is the law's where the arguments, and the package variables that the reading takes, are together of bulk at most 1048576: NARROWER than '..Said'. Prove '..Said' where nothing that the law and all that it calls make is longer than what came in: it says more and counts as full. Else prove '..UptoSaid'. A law counts once. -/
mutual
def uptoBulk {H : Type} : DataW H → Nat
  | .lit (.string bytes) => bytes.length + 1
  | .lit _ => 1
  | .nil => 1
  | .ptr d => uptoBulk d + 1
  | .slice elems spare => uptoBulkAll elems + uptoBulkAll spare + 1
  | .agg parts => uptoBulkAll parts + 1
  | .iface _ d => uptoBulk d + 1
  | .map entries => uptoBulkEntries entries + 1
  | .held _ => 1
def uptoBulkAll {H : Type} : List (DataW H) → Nat
  | [] => 0
  | d :: r => uptoBulk d + uptoBulkAll r
def uptoBulkEntries {H : Type} : List (Lit × DataW H) → Nat
  | [] => 0
  | x :: r => uptoBulkEntry x + uptoBulkEntries r
def uptoBulkEntry {H : Type} : Lit × DataW H → Nat
  | (.string bytes, d) => bytes.length + uptoBulk d + 1
  | (_, d) => uptoBulk d + 1
 end
def uptoSmall : (H : Type) → List (DataW H) → Bool := fun _ ds => decide (uptoBulkAll ds ≤ 1048576)
def OpenSpec.upto (s : _root_.Go.ChangeSpec) : _root_.Go.OpenSpec := { _root_.Go.OpenSpec.ofChange s with cond := some uptoSmall }

/-- 'laws.FnExactClimbOf', WHERE WHAT IT READS IS OF BULK AT MOST 1048576: true; the input reads as it did. -/
def fnExactClimbOfUptoRow : OpenClaim := { program := "ytokhnnhinafnfaa", sum := "42d295c555cefa597c14ff05692976fb9dadc82c0bf202c34e2649ef0629ec97", func := "loop.example/firingnets/laws.FnExactClimbOf", spec := "fnExactClimbOf", apart := false, narrowed := true }
def FnExactClimbOfUptoSaid : Prop := fnExactClimbOfUptoRow.holds Try.pinned (OpenSpec.upto fnExactClimbOfSpec)

/-- 'laws.FnExactStillOk', WHERE WHAT IT READS IS OF BULK AT MOST 1048576: true; the input reads as it did. -/
def fnExactStillOkUptoRow : OpenClaim := { program := "ytokhnnhinafnfaa", sum := "42d295c555cefa597c14ff05692976fb9dadc82c0bf202c34e2649ef0629ec97", func := "loop.example/firingnets/laws.FnExactStillOk", spec := "fnExactStillOk", apart := false, narrowed := true }
def FnExactStillOkUptoSaid : Prop := fnExactStillOkUptoRow.holds Try.pinned (OpenSpec.upto fnExactStillOkSpec)

/-- 'laws.FnExactTurnStep', WHERE WHAT IT READS IS OF BULK AT MOST 1048576: true; the input reads as it did. -/
def fnExactTurnStepUptoRow : OpenClaim := { program := "ytokhnnhinafnfaa", sum := "42d295c555cefa597c14ff05692976fb9dadc82c0bf202c34e2649ef0629ec97", func := "loop.example/firingnets/laws.FnExactTurnStep", spec := "fnExactTurnStep", apart := false, narrowed := true }
def FnExactTurnStepUptoSaid : Prop := fnExactTurnStepUptoRow.holds Try.pinned (OpenSpec.upto fnExactTurnStepSpec)

/-- 'laws.FnExactMostClimb', WHERE WHAT IT READS IS OF BULK AT MOST 1048576: true; the input reads as it did. -/
def fnExactMostClimbUptoRow : OpenClaim := { program := "ytokhnnhinafnfaa", sum := "42d295c555cefa597c14ff05692976fb9dadc82c0bf202c34e2649ef0629ec97", func := "loop.example/firingnets/laws.FnExactMostClimb", spec := "fnExactMostClimb", apart := false, narrowed := true }
def FnExactMostClimbUptoSaid : Prop := fnExactMostClimbUptoRow.holds Try.pinned (OpenSpec.upto fnExactMostClimbSpec)

/-- 'laws.FnExactWindingOf', WHERE WHAT IT READS IS OF BULK AT MOST 1048576: true; the input reads as it did. -/
def fnExactWindingOfUptoRow : OpenClaim := { program := "ytokhnnhinafnfaa", sum := "42d295c555cefa597c14ff05692976fb9dadc82c0bf202c34e2649ef0629ec97", func := "loop.example/firingnets/laws.FnExactWindingOf", spec := "fnExactWindingOf", apart := false, narrowed := true }
def FnExactWindingOfUptoSaid : Prop := fnExactWindingOfUptoRow.holds Try.pinned (OpenSpec.upto fnExactWindingOfSpec)

/-- 'laws.FnExactTurnRun', WHERE WHAT IT READS IS OF BULK AT MOST 1048576: true; the input reads as it did. -/
def fnExactTurnRunUptoRow : OpenClaim := { program := "ytokhnnhinafnfaa", sum := "42d295c555cefa597c14ff05692976fb9dadc82c0bf202c34e2649ef0629ec97", func := "loop.example/firingnets/laws.FnExactTurnRun", spec := "fnExactTurnRun", apart := false, narrowed := true }
def FnExactTurnRunUptoSaid : Prop := fnExactTurnRunUptoRow.holds Try.pinned (OpenSpec.upto fnExactTurnRunSpec)

/-- 'laws.FnExactTurnedRow', WHERE WHAT IT READS IS OF BULK AT MOST 1048576: true; the input reads as it did. -/
def fnExactTurnedRowUptoRow : OpenClaim := { program := "ytokhnnhinafnfaa", sum := "42d295c555cefa597c14ff05692976fb9dadc82c0bf202c34e2649ef0629ec97", func := "loop.example/firingnets/laws.FnExactTurnedRow", spec := "fnExactTurnedRow", apart := false, narrowed := true }
def FnExactTurnedRowUptoSaid : Prop := fnExactTurnedRowUptoRow.holds Try.pinned (OpenSpec.upto fnExactTurnedRowSpec)

/-- 'laws.FnExactFlatOk', WHERE WHAT IT READS IS OF BULK AT MOST 1048576: true; the input reads as it did. -/
def fnExactFlatOkUptoRow : OpenClaim := { program := "ytokhnnhinafnfaa", sum := "42d295c555cefa597c14ff05692976fb9dadc82c0bf202c34e2649ef0629ec97", func := "loop.example/firingnets/laws.FnExactFlatOk", spec := "fnExactFlatOk", apart := false, narrowed := true }
def FnExactFlatOkUptoSaid : Prop := fnExactFlatOkUptoRow.holds Try.pinned (OpenSpec.upto fnExactFlatOkSpec)

/-- 'laws.FnExactHeightRow', WHERE WHAT IT READS IS OF BULK AT MOST 1048576: true; the input reads as it did. -/
def fnExactHeightRowUptoRow : OpenClaim := { program := "ytokhnnhinafnfaa", sum := "42d295c555cefa597c14ff05692976fb9dadc82c0bf202c34e2649ef0629ec97", func := "loop.example/firingnets/laws.FnExactHeightRow", spec := "fnExactHeightRow", apart := false, narrowed := true }
def FnExactHeightRowUptoSaid : Prop := fnExactHeightRowUptoRow.holds Try.pinned (OpenSpec.upto fnExactHeightRowSpec)

/-- 'laws.FnExactBestTour', WHERE WHAT IT READS IS OF BULK AT MOST 1048576: true; the input reads as it did. -/
def fnExactBestTourUptoRow : OpenClaim := { program := "ytokhnnhinafnfaa", sum := "42d295c555cefa597c14ff05692976fb9dadc82c0bf202c34e2649ef0629ec97", func := "loop.example/firingnets/laws.FnExactBestTour", spec := "fnExactBestTour", apart := false, narrowed := true }
def FnExactBestTourUptoSaid : Prop := fnExactBestTourUptoRow.holds Try.pinned (OpenSpec.upto fnExactBestTourSpec)

/-- 'laws.FnExactPeakRow', WHERE WHAT IT READS IS OF BULK AT MOST 1048576: true; the input reads as it did. -/
def fnExactPeakRowUptoRow : OpenClaim := { program := "ytokhnnhinafnfaa", sum := "42d295c555cefa597c14ff05692976fb9dadc82c0bf202c34e2649ef0629ec97", func := "loop.example/firingnets/laws.FnExactPeakRow", spec := "fnExactPeakRow", apart := false, narrowed := true }
def FnExactPeakRowUptoSaid : Prop := fnExactPeakRowUptoRow.holds Try.pinned (OpenSpec.upto fnExactPeakRowSpec)

end Rows
end Go.Proofs.Ytokhnnhinafnfaa
