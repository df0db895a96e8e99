/-
  No cell of these rows narrows 'for every input' (looked for: loops, veiled, ifaces, maps, wideKeys, modest, calm, conditions, laid).
  DERIVED. THE GIVEN ROWS OF THIS SEAT. 11 by the template 'for every input the law returns true; each argument reads behind the call as it read before'; 0 by the template 'total and deterministic' (their statements: YtppfjachcleolaaTotals.lean).
  GIVEN WITH THE SEED: the statements are not yours to turn. If you find one false, say at which input.
  Laid BY PROGRAM, IN A SANDBOX (cutbox-rows.mjs): the forced cells as the released guide's own fill.sh prints them over the translation 8a4c0319d239f467… (all of the seat's roots in one cut). By AI agents, Wed Nov 11 2026. No macro, syntax, notation, axiom, sorry.
-/
import Derived.Test.YtppfjachcleolaaChecked
import GoSem.Claim
import GoSem.ClaimJoined
import GoSem.ClaimMapViews
import Derived.JoinedTies
import Derived.KernelRfl
namespace Go.Proofs.Ytppfjachcleolaa
/- THE CELL 'sum', in the pinned program and in every row, IS THE sha256 OF THE DUMP (.gsa) THAT YtppfjachcleolaaProg.lean LOADS. Nothing in Lean hashes anything: it is a label: what it is worth is what the hold of that sum in a sandbox is worth. -/
noncomputable def Try.pinned : Pinned := { name := "ytppfjachcleolaa", sum := "8a4c0319d239f467d233b7d23e920cf323470ca3d7646cd7f76264a4cbf858d3", checked := Try.checked }
namespace Rows
def none {H : Type} : Left H := { results := [], args := [] }

/-- 'laws.FnExactFrontsOk': WHATEVER THE INPUT: true; the input reads as it did. -/
def fnExactFrontsOkSpec : ChangeSpec := { name := "fnExactFrontsOk", fn := fun _ => fun
  | [d] => { results := [.lit (.bool true)], args := [d] }
  | _ => none }
def fnExactFrontsOkRow : OpenClaim := { program := "ytppfjachcleolaa", sum := "8a4c0319d239f467d233b7d23e920cf323470ca3d7646cd7f76264a4cbf858d3", func := "loop.example/firingnets/laws.FnExactFrontsOk", spec := "fnExactFrontsOk", apart := false }
def FnExactFrontsOkSaid : Prop := fnExactFrontsOkRow.holds Try.pinned (OpenSpec.ofChange fnExactFrontsOkSpec)

/-- ITS FALSE NEIGHBOUR: 'it returns false'. Refute it at one input. -/
def fnExactFrontsOkWrong : ChangeSpec := { name := "fnExactFrontsOk", fn := fun _ => fun
  | [d] => { results := [.lit (.bool false)], args := [d] }
  | _ => none }
def FnExactFrontsOkWrongFalsely : Prop := fnExactFrontsOkRow.holds Try.pinned (OpenSpec.ofChange fnExactFrontsOkWrong)

/-- 'laws.FnExactRiseOf': WHATEVER THE INPUT: true; the input reads as it did. -/
def fnExactRiseOfSpec : ChangeSpec := { name := "fnExactRiseOf", fn := fun _ => fun
  | [d1, d2, d3] => { results := [.lit (.bool true)], args := [d1, d2, d3] }
  | _ => none }
def fnExactRiseOfRow : OpenClaim := { program := "ytppfjachcleolaa", sum := "8a4c0319d239f467d233b7d23e920cf323470ca3d7646cd7f76264a4cbf858d3", func := "loop.example/firingnets/laws.FnExactRiseOf", spec := "fnExactRiseOf", apart := false }
def FnExactRiseOfSaid : Prop := fnExactRiseOfRow.holds Try.pinned (OpenSpec.ofChange fnExactRiseOfSpec)

/-- ITS FALSE NEIGHBOUR: 'it returns false'. Refute it at one input. -/
def fnExactRiseOfWrong : ChangeSpec := { name := "fnExactRiseOf", fn := fun _ => fun
  | [d1, d2, d3] => { results := [.lit (.bool false)], args := [d1, d2, d3] }
  | _ => none }
def FnExactRiseOfWrongFalsely : Prop := fnExactRiseOfRow.holds Try.pinned (OpenSpec.ofChange fnExactRiseOfWrong)

/-- 'laws.FnExactFrontCount': WHATEVER THE INPUT: true; the input reads as it did. -/
def fnExactFrontCountSpec : ChangeSpec := { name := "fnExactFrontCount", fn := fun _ => fun
  | [d1, d2] => { results := [.lit (.bool true)], args := [d1, d2] }
  | _ => none }
def fnExactFrontCountRow : OpenClaim := { program := "ytppfjachcleolaa", sum := "8a4c0319d239f467d233b7d23e920cf323470ca3d7646cd7f76264a4cbf858d3", func := "loop.example/firingnets/laws.FnExactFrontCount", spec := "fnExactFrontCount", apart := false }
def FnExactFrontCountSaid : Prop := fnExactFrontCountRow.holds Try.pinned (OpenSpec.ofChange fnExactFrontCountSpec)

/-- ITS FALSE NEIGHBOUR: 'it returns false'. Refute it at one input. -/
def fnExactFrontCountWrong : ChangeSpec := { name := "fnExactFrontCount", fn := fun _ => fun
  | [d1, d2] => { results := [.lit (.bool false)], args := [d1, d2] }
  | _ => none }
def FnExactFrontCountWrongFalsely : Prop := fnExactFrontCountRow.holds Try.pinned (OpenSpec.ofChange fnExactFrontCountWrong)

/-- 'laws.FnExactStateOfFronts': WHATEVER THE INPUT: true; the input reads as it did. -/
def fnExactStateOfFrontsSpec : ChangeSpec := { name := "fnExactStateOfFronts", fn := fun _ => fun
  | [d1, d2] => { results := [.lit (.bool true)], args := [d1, d2] }
  | _ => none }
def fnExactStateOfFrontsRow : OpenClaim := { program := "ytppfjachcleolaa", sum := "8a4c0319d239f467d233b7d23e920cf323470ca3d7646cd7f76264a4cbf858d3", func := "loop.example/firingnets/laws.FnExactStateOfFronts", spec := "fnExactStateOfFronts", apart := false }
def FnExactStateOfFrontsSaid : Prop := fnExactStateOfFrontsRow.holds Try.pinned (OpenSpec.ofChange fnExactStateOfFrontsSpec)

/-- ITS FALSE NEIGHBOUR: 'it returns false'. Refute it at one input. -/
def fnExactStateOfFrontsWrong : ChangeSpec := { name := "fnExactStateOfFronts", fn := fun _ => fun
  | [d1, d2] => { results := [.lit (.bool false)], args := [d1, d2] }
  | _ => none }
def FnExactStateOfFrontsWrongFalsely : Prop := fnExactStateOfFrontsRow.holds Try.pinned (OpenSpec.ofChange fnExactStateOfFrontsWrong)

/-- 'laws.FnExactTourOk': WHATEVER THE INPUT: true; the input reads as it did. -/
def fnExactTourOkSpec : ChangeSpec := { name := "fnExactTourOk", fn := fun _ => fun
  | [d1, d2] => { results := [.lit (.bool true)], args := [d1, d2] }
  | _ => none }
def fnExactTourOkRow : OpenClaim := { program := "ytppfjachcleolaa", sum := "8a4c0319d239f467d233b7d23e920cf323470ca3d7646cd7f76264a4cbf858d3", func := "loop.example/firingnets/laws.FnExactTourOk", spec := "fnExactTourOk", apart := false }
def FnExactTourOkSaid : Prop := fnExactTourOkRow.holds Try.pinned (OpenSpec.ofChange fnExactTourOkSpec)

/-- ITS FALSE NEIGHBOUR: 'it returns false'. Refute it at one input. -/
def fnExactTourOkWrong : ChangeSpec := { name := "fnExactTourOk", fn := fun _ => fun
  | [d1, d2] => { results := [.lit (.bool false)], args := [d1, d2] }
  | _ => none }
def FnExactTourOkWrongFalsely : Prop := fnExactTourOkRow.holds Try.pinned (OpenSpec.ofChange fnExactTourOkWrong)

/-- 'laws.FnExactFrontRow': WHATEVER THE INPUT: true; the input reads as it did. -/
def fnExactFrontRowSpec : ChangeSpec := { name := "fnExactFrontRow", fn := fun _ => fun
  | [d] => { results := [.lit (.bool true)], args := [d] }
  | _ => none }
def fnExactFrontRowRow : OpenClaim := { program := "ytppfjachcleolaa", sum := "8a4c0319d239f467d233b7d23e920cf323470ca3d7646cd7f76264a4cbf858d3", func := "loop.example/firingnets/laws.FnExactFrontRow", spec := "fnExactFrontRow", apart := false }
def FnExactFrontRowSaid : Prop := fnExactFrontRowRow.holds Try.pinned (OpenSpec.ofChange fnExactFrontRowSpec)

/-- ITS FALSE NEIGHBOUR: 'it returns false'. Refute it at one input. -/
def fnExactFrontRowWrong : ChangeSpec := { name := "fnExactFrontRow", fn := fun _ => fun
  | [d] => { results := [.lit (.bool false)], args := [d] }
  | _ => none }
def FnExactFrontRowWrongFalsely : Prop := fnExactFrontRowRow.holds Try.pinned (OpenSpec.ofChange fnExactFrontRowWrong)

/-- 'laws.FnExactRingWinding': WHATEVER THE INPUT: true; the input reads as it did. -/
def fnExactRingWindingSpec : ChangeSpec := { name := "fnExactRingWinding", fn := fun _ => fun
  | [d] => { results := [.lit (.bool true)], args := [d] }
  | _ => none }
def fnExactRingWindingRow : OpenClaim := { program := "ytppfjachcleolaa", sum := "8a4c0319d239f467d233b7d23e920cf323470ca3d7646cd7f76264a4cbf858d3", func := "loop.example/firingnets/laws.FnExactRingWinding", spec := "fnExactRingWinding", apart := false }
def FnExactRingWindingSaid : Prop := fnExactRingWindingRow.holds Try.pinned (OpenSpec.ofChange fnExactRingWindingSpec)

/-- ITS FALSE NEIGHBOUR: 'it returns false'. Refute it at one input. -/
def fnExactRingWindingWrong : ChangeSpec := { name := "fnExactRingWinding", fn := fun _ => fun
  | [d] => { results := [.lit (.bool false)], args := [d] }
  | _ => none }
def FnExactRingWindingWrongFalsely : Prop := fnExactRingWindingRow.holds Try.pinned (OpenSpec.ofChange fnExactRingWindingWrong)

/-- 'laws.FnExactFrontStep': WHATEVER THE INPUT: true; the input reads as it did. -/
def fnExactFrontStepSpec : ChangeSpec := { name := "fnExactFrontStep", fn := fun _ => fun
  | [d] => { results := [.lit (.bool true)], args := [d] }
  | _ => none }
def fnExactFrontStepRow : OpenClaim := { program := "ytppfjachcleolaa", sum := "8a4c0319d239f467d233b7d23e920cf323470ca3d7646cd7f76264a4cbf858d3", func := "loop.example/firingnets/laws.FnExactFrontStep", spec := "fnExactFrontStep", apart := false }
def FnExactFrontStepSaid : Prop := fnExactFrontStepRow.holds Try.pinned (OpenSpec.ofChange fnExactFrontStepSpec)

/-- ITS FALSE NEIGHBOUR: 'it returns false'. Refute it at one input. -/
def fnExactFrontStepWrong : ChangeSpec := { name := "fnExactFrontStep", fn := fun _ => fun
  | [d] => { results := [.lit (.bool false)], args := [d] }
  | _ => none }
def FnExactFrontStepWrongFalsely : Prop := fnExactFrontStepRow.holds Try.pinned (OpenSpec.ofChange fnExactFrontStepWrong)

/-- 'laws.FnFrontsOk': WHATEVER THE INPUT: true; the input reads as it did. -/
def fnFrontsOkSpec : ChangeSpec := { name := "fnFrontsOk", fn := fun _ => fun
  | [d] => { results := [.lit (.bool true)], args := [d] }
  | _ => none }
def fnFrontsOkRow : OpenClaim := { program := "ytppfjachcleolaa", sum := "8a4c0319d239f467d233b7d23e920cf323470ca3d7646cd7f76264a4cbf858d3", func := "loop.example/firingnets/laws.FnFrontsOk", spec := "fnFrontsOk", apart := false }
def FnFrontsOkSaid : Prop := fnFrontsOkRow.holds Try.pinned (OpenSpec.ofChange fnFrontsOkSpec)

/-- ITS FALSE NEIGHBOUR: 'it returns false'. Refute it at one input. -/
def fnFrontsOkWrong : ChangeSpec := { name := "fnFrontsOk", fn := fun _ => fun
  | [d] => { results := [.lit (.bool false)], args := [d] }
  | _ => none }
def FnFrontsOkWrongFalsely : Prop := fnFrontsOkRow.holds Try.pinned (OpenSpec.ofChange fnFrontsOkWrong)

/-- 'laws.FnRiseOf': WHATEVER THE INPUT: true; the input reads as it did. -/
def fnRiseOfSpec : ChangeSpec := { name := "fnRiseOf", fn := fun _ => fun
  | [d] => { results := [.lit (.bool true)], args := [d] }
  | _ => none }
def fnRiseOfRow : OpenClaim := { program := "ytppfjachcleolaa", sum := "8a4c0319d239f467d233b7d23e920cf323470ca3d7646cd7f76264a4cbf858d3", func := "loop.example/firingnets/laws.FnRiseOf", spec := "fnRiseOf", apart := false }
def FnRiseOfSaid : Prop := fnRiseOfRow.holds Try.pinned (OpenSpec.ofChange fnRiseOfSpec)

/-- ITS FALSE NEIGHBOUR: 'it returns false'. Refute it at one input. -/
def fnRiseOfWrong : ChangeSpec := { name := "fnRiseOf", fn := fun _ => fun
  | [d] => { results := [.lit (.bool false)], args := [d] }
  | _ => none }
def FnRiseOfWrongFalsely : Prop := fnRiseOfRow.holds Try.pinned (OpenSpec.ofChange fnRiseOfWrong)

/-- 'laws.FnTourOk': WHATEVER THE INPUT: true; the input reads as it did. -/
def fnTourOkSpec : ChangeSpec := { name := "fnTourOk", fn := fun _ => fun
  | [d] => { results := [.lit (.bool true)], args := [d] }
  | _ => none }
def fnTourOkRow : OpenClaim := { program := "ytppfjachcleolaa", sum := "8a4c0319d239f467d233b7d23e920cf323470ca3d7646cd7f76264a4cbf858d3", func := "loop.example/firingnets/laws.FnTourOk", spec := "fnTourOk", apart := false }
def FnTourOkSaid : Prop := fnTourOkRow.holds Try.pinned (OpenSpec.ofChange fnTourOkSpec)

/-- ITS FALSE NEIGHBOUR: 'it returns false'. Refute it at one input. -/
def fnTourOkWrong : ChangeSpec := { name := "fnTourOk", fn := fun _ => fun
  | [d] => { results := [.lit (.bool false)], args := [d] }
  | _ => none }
def FnTourOkWrongFalsely : Prop := fnTourOkRow.holds Try.pinned (OpenSpec.ofChange fnTourOkWrong)

/- THE SECOND FORM. 'bulk': how many values and letters a reading holds, each counted each time it is reached (what is shared counts as often as it is met; a slice's spare places count too). A statement '..UptoSaid' is the law's where the arguments, and the package variables that the reading takes, are together of bulk at most 1048576: NARROWER than '..Said'. Prove '..Said' where nothing that the law and all that it calls make is longer than what came in: it says more and counts as full. Else prove '..UptoSaid'. A law counts once. -/
mutual
def uptoBulk {H : Type} : DataW H → Nat
  | .lit (.string bytes) => bytes.length + 1
  | .lit _ => 1
  | .nil => 1
  | .ptr d => uptoBulk d + 1
  | .slice elems spare => uptoBulkAll elems + uptoBulkAll spare + 1
  | .agg parts => uptoBulkAll parts + 1
  | .iface _ d => uptoBulk d + 1
  | .map entries => uptoBulkEntries entries + 1
  | .held _ => 1
def uptoBulkAll {H : Type} : List (DataW H) → Nat
  | [] => 0
  | d :: r => uptoBulk d + uptoBulkAll r
def uptoBulkEntries {H : Type} : List (Lit × DataW H) → Nat
  | [] => 0
  | x :: r => uptoBulkEntry x + uptoBulkEntries r
def uptoBulkEntry {H : Type} : Lit × DataW H → Nat
  | (.string bytes, d) => bytes.length + uptoBulk d + 1
  | (_, d) => uptoBulk d + 1
 end
def uptoSmall : (H : Type) → List (DataW H) → Bool := fun _ ds => decide (uptoBulkAll ds ≤ 1048576)
def OpenSpec.upto (s : _root_.Go.ChangeSpec) : _root_.Go.OpenSpec := { _root_.Go.OpenSpec.ofChange s with cond := some uptoSmall }

/-- 'laws.FnExactFrontsOk', WHERE WHAT IT READS IS OF BULK AT MOST 1048576: true; the input reads as it did. -/
def fnExactFrontsOkUptoRow : OpenClaim := { program := "ytppfjachcleolaa", sum := "8a4c0319d239f467d233b7d23e920cf323470ca3d7646cd7f76264a4cbf858d3", func := "loop.example/firingnets/laws.FnExactFrontsOk", spec := "fnExactFrontsOk", apart := false, narrowed := true }
def FnExactFrontsOkUptoSaid : Prop := fnExactFrontsOkUptoRow.holds Try.pinned (OpenSpec.upto fnExactFrontsOkSpec)

/-- 'laws.FnExactRiseOf', WHERE WHAT IT READS IS OF BULK AT MOST 1048576: true; the input reads as it did. -/
def fnExactRiseOfUptoRow : OpenClaim := { program := "ytppfjachcleolaa", sum := "8a4c0319d239f467d233b7d23e920cf323470ca3d7646cd7f76264a4cbf858d3", func := "loop.example/firingnets/laws.FnExactRiseOf", spec := "fnExactRiseOf", apart := false, narrowed := true }
def FnExactRiseOfUptoSaid : Prop := fnExactRiseOfUptoRow.holds Try.pinned (OpenSpec.upto fnExactRiseOfSpec)

/-- 'laws.FnExactFrontCount', WHERE WHAT IT READS IS OF BULK AT MOST 1048576: true; the input reads as it did. -/
def fnExactFrontCountUptoRow : OpenClaim := { program := "ytppfjachcleolaa", sum := "8a4c0319d239f467d233b7d23e920cf323470ca3d7646cd7f76264a4cbf858d3", func := "loop.example/firingnets/laws.FnExactFrontCount", spec := "fnExactFrontCount", apart := false, narrowed := true }
def FnExactFrontCountUptoSaid : Prop := fnExactFrontCountUptoRow.holds Try.pinned (OpenSpec.upto fnExactFrontCountSpec)

/-- 'laws.FnExactStateOfFronts', WHERE WHAT IT READS IS OF BULK AT MOST 1048576: true; the input reads as it did. -/
def fnExactStateOfFrontsUptoRow : OpenClaim := { program := "ytppfjachcleolaa", sum := "8a4c0319d239f467d233b7d23e920cf323470ca3d7646cd7f76264a4cbf858d3", func := "loop.example/firingnets/laws.FnExactStateOfFronts", spec := "fnExactStateOfFronts", apart := false, narrowed := true }
def FnExactStateOfFrontsUptoSaid : Prop := fnExactStateOfFrontsUptoRow.holds Try.pinned (OpenSpec.upto fnExactStateOfFrontsSpec)

/-- 'laws.FnExactTourOk', WHERE WHAT IT READS IS OF BULK AT MOST 1048576: true; the input reads as it did. -/
def fnExactTourOkUptoRow : OpenClaim := { program := "ytppfjachcleolaa", sum := "8a4c0319d239f467d233b7d23e920cf323470ca3d7646cd7f76264a4cbf858d3", func := "loop.example/firingnets/laws.FnExactTourOk", spec := "fnExactTourOk", apart := false, narrowed := true }
def FnExactTourOkUptoSaid : Prop := fnExactTourOkUptoRow.holds Try.pinned (OpenSpec.upto fnExactTourOkSpec)

/-- 'laws.FnExactFrontRow', WHERE WHAT IT READS IS OF BULK AT MOST 1048576: true; the input reads as it did. -/
def fnExactFrontRowUptoRow : OpenClaim := { program := "ytppfjachcleolaa", sum := "8a4c0319d239f467d233b7d23e920cf323470ca3d7646cd7f76264a4cbf858d3", func := "loop.example/firingnets/laws.FnExactFrontRow", spec := "fnExactFrontRow", apart := false, narrowed := true }
def FnExactFrontRowUptoSaid : Prop := fnExactFrontRowUptoRow.holds Try.pinned (OpenSpec.upto fnExactFrontRowSpec)

/-- 'laws.FnExactRingWinding', WHERE WHAT IT READS IS OF BULK AT MOST 1048576: true; the input reads as it did. -/
def fnExactRingWindingUptoRow : OpenClaim := { program := "ytppfjachcleolaa", sum := "8a4c0319d239f467d233b7d23e920cf323470ca3d7646cd7f76264a4cbf858d3", func := "loop.example/firingnets/laws.FnExactRingWinding", spec := "fnExactRingWinding", apart := false, narrowed := true }
def FnExactRingWindingUptoSaid : Prop := fnExactRingWindingUptoRow.holds Try.pinned (OpenSpec.upto fnExactRingWindingSpec)

/-- 'laws.FnExactFrontStep', WHERE WHAT IT READS IS OF BULK AT MOST 1048576: true; the input reads as it did. -/
def fnExactFrontStepUptoRow : OpenClaim := { program := "ytppfjachcleolaa", sum := "8a4c0319d239f467d233b7d23e920cf323470ca3d7646cd7f76264a4cbf858d3", func := "loop.example/firingnets/laws.FnExactFrontStep", spec := "fnExactFrontStep", apart := false, narrowed := true }
def FnExactFrontStepUptoSaid : Prop := fnExactFrontStepUptoRow.holds Try.pinned (OpenSpec.upto fnExactFrontStepSpec)

/-- 'laws.FnFrontsOk', WHERE WHAT IT READS IS OF BULK AT MOST 1048576: true; the input reads as it did. -/
def fnFrontsOkUptoRow : OpenClaim := { program := "ytppfjachcleolaa", sum := "8a4c0319d239f467d233b7d23e920cf323470ca3d7646cd7f76264a4cbf858d3", func := "loop.example/firingnets/laws.FnFrontsOk", spec := "fnFrontsOk", apart := false, narrowed := true }
def FnFrontsOkUptoSaid : Prop := fnFrontsOkUptoRow.holds Try.pinned (OpenSpec.upto fnFrontsOkSpec)

/-- 'laws.FnRiseOf', WHERE WHAT IT READS IS OF BULK AT MOST 1048576: true; the input reads as it did. -/
def fnRiseOfUptoRow : OpenClaim := { program := "ytppfjachcleolaa", sum := "8a4c0319d239f467d233b7d23e920cf323470ca3d7646cd7f76264a4cbf858d3", func := "loop.example/firingnets/laws.FnRiseOf", spec := "fnRiseOf", apart := false, narrowed := true }
def FnRiseOfUptoSaid : Prop := fnRiseOfUptoRow.holds Try.pinned (OpenSpec.upto fnRiseOfSpec)

/-- 'laws.FnTourOk', WHERE WHAT IT READS IS OF BULK AT MOST 1048576: true; the input reads as it did. -/
def fnTourOkUptoRow : OpenClaim := { program := "ytppfjachcleolaa", sum := "8a4c0319d239f467d233b7d23e920cf323470ca3d7646cd7f76264a4cbf858d3", func := "loop.example/firingnets/laws.FnTourOk", spec := "fnTourOk", apart := false, narrowed := true }
def FnTourOkUptoSaid : Prop := fnTourOkUptoRow.holds Try.pinned (OpenSpec.upto fnTourOkSpec)

end Rows
end Go.Proofs.Ytppfjachcleolaa
