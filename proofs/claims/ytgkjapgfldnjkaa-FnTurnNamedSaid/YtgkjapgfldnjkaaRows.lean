/-
  No cell of these rows narrows 'for every input' (looked for: loops, veiled, ifaces, maps, wideKeys, modest, calm, conditions, laid).
  DERIVED. THE GIVEN ROWS OF THIS SEAT. 8 by the template 'for every input the law returns true; each argument reads behind the call as it read before'; 0 by the template 'total and deterministic' (their statements: YtgkjapgfldnjkaaTotals.lean).
  GIVEN WITH THE SEED: the statements are not yours to turn. If you find one false, say at which input.
  Laid BY PROGRAM, IN A SANDBOX (cutbox-rows.mjs): the forced cells as the released guide's own fill.sh prints them over the translation b94a8eff3570dc12… (all of the seat's roots in one cut). By AI agents, Wed Nov 11 2026. No macro, syntax, notation, axiom, sorry.
-/
import Derived.Test.YtgkjapgfldnjkaaChecked
import GoSem.Claim
import GoSem.ClaimJoined
import GoSem.ClaimMapViews
import Derived.JoinedTies
import Derived.KernelRfl
namespace Go.Proofs.Ytgkjapgfldnjkaa
/- THE CELL 'sum', in the pinned program and in every row, IS THE sha256 OF THE DUMP (.gsa) THAT YtgkjapgfldnjkaaProg.lean LOADS. Nothing in Lean hashes anything: it is a label: what it is worth is what the hold of that sum in a sandbox is worth. -/
noncomputable def Try.pinned : Pinned := { name := "ytgkjapgfldnjkaa", sum := "b94a8eff3570dc12a91f0ba3ca5ebd2f7faec9c784e16a1a1ffcfaf2350e405f", checked := Try.checked }
namespace Rows
def none {H : Type} : Left H := { results := [], args := [] }

/-- 'laws.FnFewestLights': WHATEVER THE INPUT: true; the input reads as it did. -/
def fnFewestLightsSpec : ChangeSpec := { name := "fnFewestLights", fn := fun _ => fun
  | [d] => { results := [.lit (.bool true)], args := [d] }
  | _ => none }
def fnFewestLightsRow : OpenClaim := { program := "ytgkjapgfldnjkaa", sum := "b94a8eff3570dc12a91f0ba3ca5ebd2f7faec9c784e16a1a1ffcfaf2350e405f", func := "loop.example/firingnets/laws.FnFewestLights", spec := "fnFewestLights", apart := false }
def FnFewestLightsSaid : Prop := fnFewestLightsRow.holds Try.pinned (OpenSpec.ofChange fnFewestLightsSpec)

/-- ITS FALSE NEIGHBOUR: 'it returns false'. Refute it at one input. -/
def fnFewestLightsWrong : ChangeSpec := { name := "fnFewestLights", fn := fun _ => fun
  | [d] => { results := [.lit (.bool false)], args := [d] }
  | _ => none }
def FnFewestLightsWrongFalsely : Prop := fnFewestLightsRow.holds Try.pinned (OpenSpec.ofChange fnFewestLightsWrong)

/-- 'laws.FnStillOk': WHATEVER THE INPUT: true; the input reads as it did. -/
def fnStillOkSpec : ChangeSpec := { name := "fnStillOk", fn := fun _ => fun
  | [d] => { results := [.lit (.bool true)], args := [d] }
  | _ => none }
def fnStillOkRow : OpenClaim := { program := "ytgkjapgfldnjkaa", sum := "b94a8eff3570dc12a91f0ba3ca5ebd2f7faec9c784e16a1a1ffcfaf2350e405f", func := "loop.example/firingnets/laws.FnStillOk", spec := "fnStillOk", apart := false }
def FnStillOkSaid : Prop := fnStillOkRow.holds Try.pinned (OpenSpec.ofChange fnStillOkSpec)

/-- ITS FALSE NEIGHBOUR: 'it returns false'. Refute it at one input. -/
def fnStillOkWrong : ChangeSpec := { name := "fnStillOk", fn := fun _ => fun
  | [d] => { results := [.lit (.bool false)], args := [d] }
  | _ => none }
def FnStillOkWrongFalsely : Prop := fnStillOkRow.holds Try.pinned (OpenSpec.ofChange fnStillOkWrong)

/-- 'laws.FnLightsGrow': WHATEVER THE INPUT: true; the input reads as it did. -/
def fnLightsGrowSpec : ChangeSpec := { name := "fnLightsGrow", fn := fun _ => fun
  | [d] => { results := [.lit (.bool true)], args := [d] }
  | _ => none }
def fnLightsGrowRow : OpenClaim := { program := "ytgkjapgfldnjkaa", sum := "b94a8eff3570dc12a91f0ba3ca5ebd2f7faec9c784e16a1a1ffcfaf2350e405f", func := "loop.example/firingnets/laws.FnLightsGrow", spec := "fnLightsGrow", apart := false }
def FnLightsGrowSaid : Prop := fnLightsGrowRow.holds Try.pinned (OpenSpec.ofChange fnLightsGrowSpec)

/-- ITS FALSE NEIGHBOUR: 'it returns false'. Refute it at one input. -/
def fnLightsGrowWrong : ChangeSpec := { name := "fnLightsGrow", fn := fun _ => fun
  | [d] => { results := [.lit (.bool false)], args := [d] }
  | _ => none }
def FnLightsGrowWrongFalsely : Prop := fnLightsGrowRow.holds Try.pinned (OpenSpec.ofChange fnLightsGrowWrong)

/-- 'laws.FnTurnNamed': WHATEVER THE INPUT: true; the input reads as it did. -/
def fnTurnNamedSpec : ChangeSpec := { name := "fnTurnNamed", fn := fun _ => fun
  | [d1, d2] => { results := [.lit (.bool true)], args := [d1, d2] }
  | _ => none }
def fnTurnNamedRow : OpenClaim := { program := "ytgkjapgfldnjkaa", sum := "b94a8eff3570dc12a91f0ba3ca5ebd2f7faec9c784e16a1a1ffcfaf2350e405f", func := "loop.example/firingnets/laws.FnTurnNamed", spec := "fnTurnNamed", apart := false }
def FnTurnNamedSaid : Prop := fnTurnNamedRow.holds Try.pinned (OpenSpec.ofChange fnTurnNamedSpec)

/-- ITS FALSE NEIGHBOUR: 'it returns false'. Refute it at one input. -/
def fnTurnNamedWrong : ChangeSpec := { name := "fnTurnNamed", fn := fun _ => fun
  | [d1, d2] => { results := [.lit (.bool false)], args := [d1, d2] }
  | _ => none }
def FnTurnNamedWrongFalsely : Prop := fnTurnNamedRow.holds Try.pinned (OpenSpec.ofChange fnTurnNamedWrong)

/-- 'laws.FnLightsFor': WHATEVER THE INPUT: true; the input reads as it did. -/
def fnLightsForSpec : ChangeSpec := { name := "fnLightsFor", fn := fun _ => fun
  | [d] => { results := [.lit (.bool true)], args := [d] }
  | _ => none }
def fnLightsForRow : OpenClaim := { program := "ytgkjapgfldnjkaa", sum := "b94a8eff3570dc12a91f0ba3ca5ebd2f7faec9c784e16a1a1ffcfaf2350e405f", func := "loop.example/firingnets/laws.FnLightsFor", spec := "fnLightsFor", apart := false }
def FnLightsForSaid : Prop := fnLightsForRow.holds Try.pinned (OpenSpec.ofChange fnLightsForSpec)

/-- ITS FALSE NEIGHBOUR: 'it returns false'. Refute it at one input. -/
def fnLightsForWrong : ChangeSpec := { name := "fnLightsFor", fn := fun _ => fun
  | [d] => { results := [.lit (.bool false)], args := [d] }
  | _ => none }
def FnLightsForWrongFalsely : Prop := fnLightsForRow.holds Try.pinned (OpenSpec.ofChange fnLightsForWrong)

/-- 'laws.FnWindingOf': WHATEVER THE INPUT: true; the input reads as it did. -/
def fnWindingOfSpec : ChangeSpec := { name := "fnWindingOf", fn := fun _ => fun
  | [d] => { results := [.lit (.bool true)], args := [d] }
  | _ => none }
def fnWindingOfRow : OpenClaim := { program := "ytgkjapgfldnjkaa", sum := "b94a8eff3570dc12a91f0ba3ca5ebd2f7faec9c784e16a1a1ffcfaf2350e405f", func := "loop.example/firingnets/laws.FnWindingOf", spec := "fnWindingOf", apart := false }
def FnWindingOfSaid : Prop := fnWindingOfRow.holds Try.pinned (OpenSpec.ofChange fnWindingOfSpec)

/-- ITS FALSE NEIGHBOUR: 'it returns false'. Refute it at one input. -/
def fnWindingOfWrong : ChangeSpec := { name := "fnWindingOf", fn := fun _ => fun
  | [d] => { results := [.lit (.bool false)], args := [d] }
  | _ => none }
def FnWindingOfWrongFalsely : Prop := fnWindingOfRow.holds Try.pinned (OpenSpec.ofChange fnWindingOfWrong)

/-- 'laws.FnBestTour': WHATEVER THE INPUT: true; the input reads as it did. -/
def fnBestTourSpec : ChangeSpec := { name := "fnBestTour", fn := fun _ => fun
  | [d1, d2] => { results := [.lit (.bool true)], args := [d1, d2] }
  | _ => none }
def fnBestTourRow : OpenClaim := { program := "ytgkjapgfldnjkaa", sum := "b94a8eff3570dc12a91f0ba3ca5ebd2f7faec9c784e16a1a1ffcfaf2350e405f", func := "loop.example/firingnets/laws.FnBestTour", spec := "fnBestTour", apart := false }
def FnBestTourSaid : Prop := fnBestTourRow.holds Try.pinned (OpenSpec.ofChange fnBestTourSpec)

/-- ITS FALSE NEIGHBOUR: 'it returns false'. Refute it at one input. -/
def fnBestTourWrong : ChangeSpec := { name := "fnBestTour", fn := fun _ => fun
  | [d1, d2] => { results := [.lit (.bool false)], args := [d1, d2] }
  | _ => none }
def FnBestTourWrongFalsely : Prop := fnBestTourRow.holds Try.pinned (OpenSpec.ofChange fnBestTourWrong)

/-- 'laws.FnHeightRow': WHATEVER THE INPUT: true; the input reads as it did. -/
def fnHeightRowSpec : ChangeSpec := { name := "fnHeightRow", fn := fun _ => fun
  | [d] => { results := [.lit (.bool true)], args := [d] }
  | _ => none }
def fnHeightRowRow : OpenClaim := { program := "ytgkjapgfldnjkaa", sum := "b94a8eff3570dc12a91f0ba3ca5ebd2f7faec9c784e16a1a1ffcfaf2350e405f", func := "loop.example/firingnets/laws.FnHeightRow", spec := "fnHeightRow", apart := false }
def FnHeightRowSaid : Prop := fnHeightRowRow.holds Try.pinned (OpenSpec.ofChange fnHeightRowSpec)

/-- ITS FALSE NEIGHBOUR: 'it returns false'. Refute it at one input. -/
def fnHeightRowWrong : ChangeSpec := { name := "fnHeightRow", fn := fun _ => fun
  | [d] => { results := [.lit (.bool false)], args := [d] }
  | _ => none }
def FnHeightRowWrongFalsely : Prop := fnHeightRowRow.holds Try.pinned (OpenSpec.ofChange fnHeightRowWrong)

/- THE SECOND FORM. 'bulk': how many values and letters a reading holds, each counted each time it is reached (what is shared counts as often as it is met; a slice's spare places count too). A statement '..UptoSaid' is the law's where the arguments, and the package variables that the reading takes, are together of bulk at most 1048576: NARROWER than '..Said'. Prove '..Said' where nothing that the law and all that it calls make is longer than what came in: it says more and counts as full. Else prove '..UptoSaid'. A law counts once. -/
mutual
def uptoBulk {H : Type} : DataW H → Nat
  | .lit (.string bytes) => bytes.length + 1
  | .lit _ => 1
  | .nil => 1
  | .ptr d => uptoBulk d + 1
  | .slice elems spare => uptoBulkAll elems + uptoBulkAll spare + 1
  | .agg parts => uptoBulkAll parts + 1
  | .iface _ d => uptoBulk d + 1
  | .map entries => uptoBulkEntries entries + 1
  | .held _ => 1
def uptoBulkAll {H : Type} : List (DataW H) → Nat
  | [] => 0
  | d :: r => uptoBulk d + uptoBulkAll r
def uptoBulkEntries {H : Type} : List (Lit × DataW H) → Nat
  | [] => 0
  | x :: r => uptoBulkEntry x + uptoBulkEntries r
def uptoBulkEntry {H : Type} : Lit × DataW H → Nat
  | (.string bytes, d) => bytes.length + uptoBulk d + 1
  | (_, d) => uptoBulk d + 1
 end
def uptoSmall : (H : Type) → List (DataW H) → Bool := fun _ ds => decide (uptoBulkAll ds ≤ 1048576)
def OpenSpec.upto (s : _root_.Go.ChangeSpec) : _root_.Go.OpenSpec := { _root_.Go.OpenSpec.ofChange s with cond := some uptoSmall }

/-- 'laws.FnFewestLights', WHERE WHAT IT READS IS OF BULK AT MOST 1048576: true; the input reads as it did. -/
def fnFewestLightsUptoRow : OpenClaim := { program := "ytgkjapgfldnjkaa", sum := "b94a8eff3570dc12a91f0ba3ca5ebd2f7faec9c784e16a1a1ffcfaf2350e405f", func := "loop.example/firingnets/laws.FnFewestLights", spec := "fnFewestLights", apart := false, narrowed := true }
def FnFewestLightsUptoSaid : Prop := fnFewestLightsUptoRow.holds Try.pinned (OpenSpec.upto fnFewestLightsSpec)

/-- 'laws.FnStillOk', WHERE WHAT IT READS IS OF BULK AT MOST 1048576: true; the input reads as it did. -/
def fnStillOkUptoRow : OpenClaim := { program := "ytgkjapgfldnjkaa", sum := "b94a8eff3570dc12a91f0ba3ca5ebd2f7faec9c784e16a1a1ffcfaf2350e405f", func := "loop.example/firingnets/laws.FnStillOk", spec := "fnStillOk", apart := false, narrowed := true }
def FnStillOkUptoSaid : Prop := fnStillOkUptoRow.holds Try.pinned (OpenSpec.upto fnStillOkSpec)

/-- 'laws.FnLightsGrow', WHERE WHAT IT READS IS OF BULK AT MOST 1048576: true; the input reads as it did. -/
def fnLightsGrowUptoRow : OpenClaim := { program := "ytgkjapgfldnjkaa", sum := "b94a8eff3570dc12a91f0ba3ca5ebd2f7faec9c784e16a1a1ffcfaf2350e405f", func := "loop.example/firingnets/laws.FnLightsGrow", spec := "fnLightsGrow", apart := false, narrowed := true }
def FnLightsGrowUptoSaid : Prop := fnLightsGrowUptoRow.holds Try.pinned (OpenSpec.upto fnLightsGrowSpec)

/-- 'laws.FnTurnNamed', WHERE WHAT IT READS IS OF BULK AT MOST 1048576: true; the input reads as it did. -/
def fnTurnNamedUptoRow : OpenClaim := { program := "ytgkjapgfldnjkaa", sum := "b94a8eff3570dc12a91f0ba3ca5ebd2f7faec9c784e16a1a1ffcfaf2350e405f", func := "loop.example/firingnets/laws.FnTurnNamed", spec := "fnTurnNamed", apart := false, narrowed := true }
def FnTurnNamedUptoSaid : Prop := fnTurnNamedUptoRow.holds Try.pinned (OpenSpec.upto fnTurnNamedSpec)

/-- 'laws.FnLightsFor', WHERE WHAT IT READS IS OF BULK AT MOST 1048576: true; the input reads as it did. -/
def fnLightsForUptoRow : OpenClaim := { program := "ytgkjapgfldnjkaa", sum := "b94a8eff3570dc12a91f0ba3ca5ebd2f7faec9c784e16a1a1ffcfaf2350e405f", func := "loop.example/firingnets/laws.FnLightsFor", spec := "fnLightsFor", apart := false, narrowed := true }
def FnLightsForUptoSaid : Prop := fnLightsForUptoRow.holds Try.pinned (OpenSpec.upto fnLightsForSpec)

/-- 'laws.FnWindingOf', WHERE WHAT IT READS IS OF BULK AT MOST 1048576: true; the input reads as it did. -/
def fnWindingOfUptoRow : OpenClaim := { program := "ytgkjapgfldnjkaa", sum := "b94a8eff3570dc12a91f0ba3ca5ebd2f7faec9c784e16a1a1ffcfaf2350e405f", func := "loop.example/firingnets/laws.FnWindingOf", spec := "fnWindingOf", apart := false, narrowed := true }
def FnWindingOfUptoSaid : Prop := fnWindingOfUptoRow.holds Try.pinned (OpenSpec.upto fnWindingOfSpec)

/-- 'laws.FnBestTour', WHERE WHAT IT READS IS OF BULK AT MOST 1048576: true; the input reads as it did. -/
def fnBestTourUptoRow : OpenClaim := { program := "ytgkjapgfldnjkaa", sum := "b94a8eff3570dc12a91f0ba3ca5ebd2f7faec9c784e16a1a1ffcfaf2350e405f", func := "loop.example/firingnets/laws.FnBestTour", spec := "fnBestTour", apart := false, narrowed := true }
def FnBestTourUptoSaid : Prop := fnBestTourUptoRow.holds Try.pinned (OpenSpec.upto fnBestTourSpec)

/-- 'laws.FnHeightRow', WHERE WHAT IT READS IS OF BULK AT MOST 1048576: true; the input reads as it did. -/
def fnHeightRowUptoRow : OpenClaim := { program := "ytgkjapgfldnjkaa", sum := "b94a8eff3570dc12a91f0ba3ca5ebd2f7faec9c784e16a1a1ffcfaf2350e405f", func := "loop.example/firingnets/laws.FnHeightRow", spec := "fnHeightRow", apart := false, narrowed := true }
def FnHeightRowUptoSaid : Prop := fnHeightRowUptoRow.holds Try.pinned (OpenSpec.upto fnHeightRowSpec)

end Rows
end Go.Proofs.Ytgkjapgfldnjkaa
