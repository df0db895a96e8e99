/-
  No cell of these rows narrows 'for every input' (looked for: loops, veiled, ifaces, maps, wideKeys, modest, calm, conditions, laid).
  DERIVED. THE GIVEN ROWS OF THIS SEAT. 3 by the template 'for every input the law returns true; each argument reads behind the call as it read before'; 0 by the template 'total and deterministic' (their statements: YtkofidpgbmajdaaTotals.lean).
  GIVEN WITH THE SEED: the statements are not yours to turn. If you find one false, say at which input.
  Laid BY PROGRAM, IN A SANDBOX (cutbox-rows.mjs): the forced cells as the released guide's own fill.sh prints them over the translation 18042238f816a43e… (all of the seat's roots in one cut). By AI agents, Wed Nov 11 2026. No macro, syntax, notation, axiom, sorry.
-/
import Derived.Test.YtkofidpgbmajdaaChecked
import GoSem.Claim
import GoSem.ClaimJoined
import GoSem.ClaimMapViews
import Derived.JoinedTies
import Derived.KernelRfl
namespace Go.Proofs.Ytkofidpgbmajdaa
/- THE CELL 'sum', in the pinned program and in every row, IS THE sha256 OF THE DUMP (.gsa) THAT YtkofidpgbmajdaaProg.lean LOADS. Nothing in Lean hashes anything: it is a label: what it is worth is what the hold of that sum in a sandbox is worth. -/
noncomputable def Try.pinned : Pinned := { name := "ytkofidpgbmajdaa", sum := "18042238f816a43ecacb3dde19991fcb78746042ca0e7d44364163f4fc7440cf", checked := Try.checked }
namespace Rows
def none {H : Type} : Left H := { results := [], args := [] }

/-- 'laws.FnExactRingWinding': WHATEVER THE INPUT: true; the input reads as it did. -/
def fnExactRingWindingSpec : ChangeSpec := { name := "fnExactRingWinding", fn := fun _ => fun
  | [d] => { results := [.lit (.bool true)], args := [d] }
  | _ => none }
def fnExactRingWindingRow : OpenClaim := { program := "ytkofidpgbmajdaa", sum := "18042238f816a43ecacb3dde19991fcb78746042ca0e7d44364163f4fc7440cf", func := "loop.example/firingnets/laws.FnExactRingWinding", spec := "fnExactRingWinding", apart := false }
def FnExactRingWindingSaid : Prop := fnExactRingWindingRow.holds Try.pinned (OpenSpec.ofChange fnExactRingWindingSpec)

/-- ITS FALSE NEIGHBOUR: 'it returns false'. Refute it at one input. -/
def fnExactRingWindingWrong : ChangeSpec := { name := "fnExactRingWinding", fn := fun _ => fun
  | [d] => { results := [.lit (.bool false)], args := [d] }
  | _ => none }
def FnExactRingWindingWrongFalsely : Prop := fnExactRingWindingRow.holds Try.pinned (OpenSpec.ofChange fnExactRingWindingWrong)

/-- 'laws.FnExactBestTour': WHATEVER THE INPUT: true; the input reads as it did. -/
def fnExactBestTourSpec : ChangeSpec := { name := "fnExactBestTour", fn := fun _ => fun
  | [d1, d2, d3, d4] => { results := [.lit (.bool true)], args := [d1, d2, d3, d4] }
  | _ => none }
def fnExactBestTourRow : OpenClaim := { program := "ytkofidpgbmajdaa", sum := "18042238f816a43ecacb3dde19991fcb78746042ca0e7d44364163f4fc7440cf", func := "loop.example/firingnets/laws.FnExactBestTour", spec := "fnExactBestTour", apart := false }
def FnExactBestTourSaid : Prop := fnExactBestTourRow.holds Try.pinned (OpenSpec.ofChange fnExactBestTourSpec)

/-- ITS FALSE NEIGHBOUR: 'it returns false'. Refute it at one input. -/
def fnExactBestTourWrong : ChangeSpec := { name := "fnExactBestTour", fn := fun _ => fun
  | [d1, d2, d3, d4] => { results := [.lit (.bool false)], args := [d1, d2, d3, d4] }
  | _ => none }
def FnExactBestTourWrongFalsely : Prop := fnExactBestTourRow.holds Try.pinned (OpenSpec.ofChange fnExactBestTourWrong)

/-- 'laws.FnBestTour': WHATEVER THE INPUT: true; the input reads as it did. -/
def fnBestTourSpec : ChangeSpec := { name := "fnBestTour", fn := fun _ => fun
  | [d1, d2] => { results := [.lit (.bool true)], args := [d1, d2] }
  | _ => none }
def fnBestTourRow : OpenClaim := { program := "ytkofidpgbmajdaa", sum := "18042238f816a43ecacb3dde19991fcb78746042ca0e7d44364163f4fc7440cf", func := "loop.example/firingnets/laws.FnBestTour", spec := "fnBestTour", apart := false }
def FnBestTourSaid : Prop := fnBestTourRow.holds Try.pinned (OpenSpec.ofChange fnBestTourSpec)

/-- ITS FALSE NEIGHBOUR: 'it returns false'. Refute it at one input. -/
def fnBestTourWrong : ChangeSpec := { name := "fnBestTour", fn := fun _ => fun
  | [d1, d2] => { results := [.lit (.bool false)], args := [d1, d2] }
  | _ => none }
def FnBestTourWrongFalsely : Prop := fnBestTourRow.holds Try.pinned (OpenSpec.ofChange fnBestTourWrong)

/- THE SECOND FORM. 'bulk': how many values and letters a reading holds, each counted each time it is reached (what is shared counts as often as it is met; a slice's spare places count too). A statement '..UptoSaid' is the law's where the arguments, and the package variables that the reading takes, are together of bulk at most 1048576: NARROWER than '..Said'. Prove '..Said' where nothing that the law and all that it calls make is longer than what came in: it says more and counts as full. Else prove '..UptoSaid'. A law counts once. -/
mutual
def uptoBulk {H : Type} : DataW H → Nat
  | .lit (.string bytes) => bytes.length + 1
  | .lit _ => 1
  | .nil => 1
  | .ptr d => uptoBulk d + 1
  | .slice elems spare => uptoBulkAll elems + uptoBulkAll spare + 1
  | .agg parts => uptoBulkAll parts + 1
  | .iface _ d => uptoBulk d + 1
  | .map entries => uptoBulkEntries entries + 1
  | .held _ => 1
def uptoBulkAll {H : Type} : List (DataW H) → Nat
  | [] => 0
  | d :: r => uptoBulk d + uptoBulkAll r
def uptoBulkEntries {H : Type} : List (Lit × DataW H) → Nat
  | [] => 0
  | x :: r => uptoBulkEntry x + uptoBulkEntries r
def uptoBulkEntry {H : Type} : Lit × DataW H → Nat
  | (.string bytes, d) => bytes.length + uptoBulk d + 1
  | (_, d) => uptoBulk d + 1
 end
def uptoSmall : (H : Type) → List (DataW H) → Bool := fun _ ds => decide (uptoBulkAll ds ≤ 1048576)
def OpenSpec.upto (s : _root_.Go.ChangeSpec) : _root_.Go.OpenSpec := { _root_.Go.OpenSpec.ofChange s with cond := some uptoSmall }

/-- 'laws.FnExactRingWinding', WHERE WHAT IT READS IS OF BULK AT MOST 1048576: true; the input reads as it did. -/
def fnExactRingWindingUptoRow : OpenClaim := { program := "ytkofidpgbmajdaa", sum := "18042238f816a43ecacb3dde19991fcb78746042ca0e7d44364163f4fc7440cf", func := "loop.example/firingnets/laws.FnExactRingWinding", spec := "fnExactRingWinding", apart := false, narrowed := true }
def FnExactRingWindingUptoSaid : Prop := fnExactRingWindingUptoRow.holds Try.pinned (OpenSpec.upto fnExactRingWindingSpec)

/-- 'laws.FnExactBestTour', WHERE WHAT IT READS IS OF BULK AT MOST 1048576: true; the input reads as it did. -/
def fnExactBestTourUptoRow : OpenClaim := { program := "ytkofidpgbmajdaa", sum := "18042238f816a43ecacb3dde19991fcb78746042ca0e7d44364163f4fc7440cf", func := "loop.example/firingnets/laws.FnExactBestTour", spec := "fnExactBestTour", apart := false, narrowed := true }
def FnExactBestTourUptoSaid : Prop := fnExactBestTourUptoRow.holds Try.pinned (OpenSpec.upto fnExactBestTourSpec)

/-- 'laws.FnBestTour', WHERE WHAT IT READS IS OF BULK AT MOST 1048576: true; the input reads as it did. -/
def fnBestTourUptoRow : OpenClaim := { program := "ytkofidpgbmajdaa", sum := "18042238f816a43ecacb3dde19991fcb78746042ca0e7d44364163f4fc7440cf", func := "loop.example/firingnets/laws.FnBestTour", spec := "fnBestTour", apart := false, narrowed := true }
def FnBestTourUptoSaid : Prop := fnBestTourUptoRow.holds Try.pinned (OpenSpec.upto fnBestTourSpec)

end Rows
end Go.Proofs.Ytkofidpgbmajdaa
