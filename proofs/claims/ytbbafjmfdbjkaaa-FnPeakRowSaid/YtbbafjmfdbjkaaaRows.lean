/-
  No cell of these rows narrows 'for every input' (looked for: loops, veiled, ifaces, maps, wideKeys, modest, calm, conditions, laid).
  DERIVED. THE GIVEN ROWS OF THIS SEAT. 10 by the template 'for every input the law returns true; each argument reads behind the call as it read before'; 0 by the template 'total and deterministic' (their statements: YtbbafjmfdbjkaaaTotals.lean).
  GIVEN WITH THE SEED: the statements are not yours to turn. If you find one false, say at which input.
  Laid BY PROGRAM, IN A SANDBOX (cutbox-rows.mjs): the forced cells as the released guide's own fill.sh prints them over the translation 0c366bb337b767e0… (all of the seat's roots in one cut). By AI agents, Wed Nov 11 2026. No macro, syntax, notation, axiom, sorry.
-/
import Derived.Test.YtbbafjmfdbjkaaaChecked
import GoSem.Claim
import GoSem.ClaimJoined
import GoSem.ClaimMapViews
import Derived.JoinedTies
import Derived.KernelRfl
namespace Go.Proofs.Ytbbafjmfdbjkaaa
/- THE CELL 'sum', in the pinned program and in every row, IS THE sha256 OF THE DUMP (.gsa) THAT YtbbafjmfdbjkaaaProg.lean LOADS. Nothing in Lean hashes anything: it is a label: what it is worth is what the hold of that sum in a sandbox is worth. -/
noncomputable def Try.pinned : Pinned := { name := "ytbbafjmfdbjkaaa", sum := "0c366bb337b767e000d798913263942bab34880e0eae39192330f624ddb132b2", checked := Try.checked }
namespace Rows
def none {H : Type} : Left H := { results := [], args := [] }

/-- 'laws.FnExactRingStates': WHATEVER THE INPUT: true; the input reads as it did. -/
def fnExactRingStatesSpec : ChangeSpec := { name := "fnExactRingStates", fn := fun _ => fun
  | [d1, d2] => { results := [.lit (.bool true)], args := [d1, d2] }
  | _ => none }
def fnExactRingStatesRow : OpenClaim := { program := "ytbbafjmfdbjkaaa", sum := "0c366bb337b767e000d798913263942bab34880e0eae39192330f624ddb132b2", func := "loop.example/firingnets/laws.FnExactRingStates", spec := "fnExactRingStates", unfollowed := true, recurses := true, apart := false }
def FnExactRingStatesSaid : Prop := fnExactRingStatesRow.holds Try.pinned (OpenSpec.ofChange fnExactRingStatesSpec)

/-- ITS FALSE NEIGHBOUR: 'it returns false'. Refute it at one input. -/
def fnExactRingStatesWrong : ChangeSpec := { name := "fnExactRingStates", fn := fun _ => fun
  | [d1, d2] => { results := [.lit (.bool false)], args := [d1, d2] }
  | _ => none }
def FnExactRingStatesWrongFalsely : Prop := fnExactRingStatesRow.holds Try.pinned (OpenSpec.ofChange fnExactRingStatesWrong)

/-- 'laws.FnRingStates': WHATEVER THE INPUT: true; the input reads as it did. -/
def fnRingStatesSpec : ChangeSpec := { name := "fnRingStates", fn := fun _ => fun
  | [d] => { results := [.lit (.bool true)], args := [d] }
  | _ => none }
def fnRingStatesRow : OpenClaim := { program := "ytbbafjmfdbjkaaa", sum := "0c366bb337b767e000d798913263942bab34880e0eae39192330f624ddb132b2", func := "loop.example/firingnets/laws.FnRingStates", spec := "fnRingStates", unfollowed := true, recurses := true, apart := false }
def FnRingStatesSaid : Prop := fnRingStatesRow.holds Try.pinned (OpenSpec.ofChange fnRingStatesSpec)

/-- ITS FALSE NEIGHBOUR: 'it returns false'. Refute it at one input. -/
def fnRingStatesWrong : ChangeSpec := { name := "fnRingStates", fn := fun _ => fun
  | [d] => { results := [.lit (.bool false)], args := [d] }
  | _ => none }
def FnRingStatesWrongFalsely : Prop := fnRingStatesRow.holds Try.pinned (OpenSpec.ofChange fnRingStatesWrong)

/-- 'laws.FnExactTurnLoop': WHATEVER THE INPUT: true; the input reads as it did. -/
def fnExactTurnLoopSpec : ChangeSpec := { name := "fnExactTurnLoop", fn := fun _ => fun
  | [d1, d2] => { results := [.lit (.bool true)], args := [d1, d2] }
  | _ => none }
def fnExactTurnLoopRow : OpenClaim := { program := "ytbbafjmfdbjkaaa", sum := "0c366bb337b767e000d798913263942bab34880e0eae39192330f624ddb132b2", func := "loop.example/firingnets/laws.FnExactTurnLoop", spec := "fnExactTurnLoop", unfollowed := true, recurses := true, apart := false }
def FnExactTurnLoopSaid : Prop := fnExactTurnLoopRow.holds Try.pinned (OpenSpec.ofChange fnExactTurnLoopSpec)

/-- ITS FALSE NEIGHBOUR: 'it returns false'. Refute it at one input. -/
def fnExactTurnLoopWrong : ChangeSpec := { name := "fnExactTurnLoop", fn := fun _ => fun
  | [d1, d2] => { results := [.lit (.bool false)], args := [d1, d2] }
  | _ => none }
def FnExactTurnLoopWrongFalsely : Prop := fnExactTurnLoopRow.holds Try.pinned (OpenSpec.ofChange fnExactTurnLoopWrong)

/-- 'laws.FnExactStandsAt': WHATEVER THE INPUT: true; the input reads as it did. -/
def fnExactStandsAtSpec : ChangeSpec := { name := "fnExactStandsAt", fn := fun _ => fun
  | [d1, d2] => { results := [.lit (.bool true)], args := [d1, d2] }
  | _ => none }
def fnExactStandsAtRow : OpenClaim := { program := "ytbbafjmfdbjkaaa", sum := "0c366bb337b767e000d798913263942bab34880e0eae39192330f624ddb132b2", func := "loop.example/firingnets/laws.FnExactStandsAt", spec := "fnExactStandsAt", unfollowed := true, recurses := true, apart := false }
def FnExactStandsAtSaid : Prop := fnExactStandsAtRow.holds Try.pinned (OpenSpec.ofChange fnExactStandsAtSpec)

/-- ITS FALSE NEIGHBOUR: 'it returns false'. Refute it at one input. -/
def fnExactStandsAtWrong : ChangeSpec := { name := "fnExactStandsAt", fn := fun _ => fun
  | [d1, d2] => { results := [.lit (.bool false)], args := [d1, d2] }
  | _ => none }
def FnExactStandsAtWrongFalsely : Prop := fnExactStandsAtRow.holds Try.pinned (OpenSpec.ofChange fnExactStandsAtWrong)

/-- 'laws.FnTurnLoop': WHATEVER THE INPUT: true; the input reads as it did. -/
def fnTurnLoopSpec : ChangeSpec := { name := "fnTurnLoop", fn := fun _ => fun
  | [d] => { results := [.lit (.bool true)], args := [d] }
  | _ => none }
def fnTurnLoopRow : OpenClaim := { program := "ytbbafjmfdbjkaaa", sum := "0c366bb337b767e000d798913263942bab34880e0eae39192330f624ddb132b2", func := "loop.example/firingnets/laws.FnTurnLoop", spec := "fnTurnLoop", unfollowed := true, recurses := true, apart := false }
def FnTurnLoopSaid : Prop := fnTurnLoopRow.holds Try.pinned (OpenSpec.ofChange fnTurnLoopSpec)

/-- ITS FALSE NEIGHBOUR: 'it returns false'. Refute it at one input. -/
def fnTurnLoopWrong : ChangeSpec := { name := "fnTurnLoop", fn := fun _ => fun
  | [d] => { results := [.lit (.bool false)], args := [d] }
  | _ => none }
def FnTurnLoopWrongFalsely : Prop := fnTurnLoopRow.holds Try.pinned (OpenSpec.ofChange fnTurnLoopWrong)

/-- 'laws.FnStandsAt': WHATEVER THE INPUT: true; the input reads as it did. -/
def fnStandsAtSpec : ChangeSpec := { name := "fnStandsAt", fn := fun _ => fun
  | [d] => { results := [.lit (.bool true)], args := [d] }
  | _ => none }
def fnStandsAtRow : OpenClaim := { program := "ytbbafjmfdbjkaaa", sum := "0c366bb337b767e000d798913263942bab34880e0eae39192330f624ddb132b2", func := "loop.example/firingnets/laws.FnStandsAt", spec := "fnStandsAt", unfollowed := true, recurses := true, apart := false }
def FnStandsAtSaid : Prop := fnStandsAtRow.holds Try.pinned (OpenSpec.ofChange fnStandsAtSpec)

/-- ITS FALSE NEIGHBOUR: 'it returns false'. Refute it at one input. -/
def fnStandsAtWrong : ChangeSpec := { name := "fnStandsAt", fn := fun _ => fun
  | [d] => { results := [.lit (.bool false)], args := [d] }
  | _ => none }
def FnStandsAtWrongFalsely : Prop := fnStandsAtRow.holds Try.pinned (OpenSpec.ofChange fnStandsAtWrong)

/-- 'laws.FnPeakRow': WHATEVER THE INPUT: true; the input reads as it did. -/
def fnPeakRowSpec : ChangeSpec := { name := "fnPeakRow", fn := fun _ => fun
  | [d] => { results := [.lit (.bool true)], args := [d] }
  | _ => none }
def fnPeakRowRow : OpenClaim := { program := "ytbbafjmfdbjkaaa", sum := "0c366bb337b767e000d798913263942bab34880e0eae39192330f624ddb132b2", func := "loop.example/firingnets/laws.FnPeakRow", spec := "fnPeakRow", unfollowed := true, recurses := true, apart := false }
def FnPeakRowSaid : Prop := fnPeakRowRow.holds Try.pinned (OpenSpec.ofChange fnPeakRowSpec)

/-- ITS FALSE NEIGHBOUR: 'it returns false'. Refute it at one input. -/
def fnPeakRowWrong : ChangeSpec := { name := "fnPeakRow", fn := fun _ => fun
  | [d] => { results := [.lit (.bool false)], args := [d] }
  | _ => none }
def FnPeakRowWrongFalsely : Prop := fnPeakRowRow.holds Try.pinned (OpenSpec.ofChange fnPeakRowWrong)

/-- 'laws.FnFlatOk': WHATEVER THE INPUT: true; the input reads as it did. -/
def fnFlatOkSpec : ChangeSpec := { name := "fnFlatOk", fn := fun _ => fun
  | [d] => { results := [.lit (.bool true)], args := [d] }
  | _ => none }
def fnFlatOkRow : OpenClaim := { program := "ytbbafjmfdbjkaaa", sum := "0c366bb337b767e000d798913263942bab34880e0eae39192330f624ddb132b2", func := "loop.example/firingnets/laws.FnFlatOk", spec := "fnFlatOk", unfollowed := true, recurses := true, apart := false }
def FnFlatOkSaid : Prop := fnFlatOkRow.holds Try.pinned (OpenSpec.ofChange fnFlatOkSpec)

/-- ITS FALSE NEIGHBOUR: 'it returns false'. Refute it at one input. -/
def fnFlatOkWrong : ChangeSpec := { name := "fnFlatOk", fn := fun _ => fun
  | [d] => { results := [.lit (.bool false)], args := [d] }
  | _ => none }
def FnFlatOkWrongFalsely : Prop := fnFlatOkRow.holds Try.pinned (OpenSpec.ofChange fnFlatOkWrong)

/-- 'laws.FnTreesFlat': WHATEVER THE INPUT: true; the input reads as it did. -/
def fnTreesFlatSpec : ChangeSpec := { name := "fnTreesFlat", fn := fun _ => fun
  | [d] => { results := [.lit (.bool true)], args := [d] }
  | _ => none }
def fnTreesFlatRow : OpenClaim := { program := "ytbbafjmfdbjkaaa", sum := "0c366bb337b767e000d798913263942bab34880e0eae39192330f624ddb132b2", func := "loop.example/firingnets/laws.FnTreesFlat", spec := "fnTreesFlat", apart := false }
def FnTreesFlatSaid : Prop := fnTreesFlatRow.holds Try.pinned (OpenSpec.ofChange fnTreesFlatSpec)

/-- ITS FALSE NEIGHBOUR: 'it returns false'. Refute it at one input. -/
def fnTreesFlatWrong : ChangeSpec := { name := "fnTreesFlat", fn := fun _ => fun
  | [d] => { results := [.lit (.bool false)], args := [d] }
  | _ => none }
def FnTreesFlatWrongFalsely : Prop := fnTreesFlatRow.holds Try.pinned (OpenSpec.ofChange fnTreesFlatWrong)

/-- 'laws.FnWaveEnd': WHATEVER THE INPUT: true; the input reads as it did. -/
def fnWaveEndSpec : ChangeSpec := { name := "fnWaveEnd", fn := fun _ => fun
  | [d] => { results := [.lit (.bool true)], args := [d] }
  | _ => none }
def fnWaveEndRow : OpenClaim := { program := "ytbbafjmfdbjkaaa", sum := "0c366bb337b767e000d798913263942bab34880e0eae39192330f624ddb132b2", func := "loop.example/firingnets/laws.FnWaveEnd", spec := "fnWaveEnd", apart := false }
def FnWaveEndSaid : Prop := fnWaveEndRow.holds Try.pinned (OpenSpec.ofChange fnWaveEndSpec)

/-- ITS FALSE NEIGHBOUR: 'it returns false'. Refute it at one input. -/
def fnWaveEndWrong : ChangeSpec := { name := "fnWaveEnd", fn := fun _ => fun
  | [d] => { results := [.lit (.bool false)], args := [d] }
  | _ => none }
def FnWaveEndWrongFalsely : Prop := fnWaveEndRow.holds Try.pinned (OpenSpec.ofChange fnWaveEndWrong)

/- THE SECOND FORM. 'bulk': how many values and letters a reading holds, each counted each time it is reached (what is shared counts as often as it is met; a slice's spare places count too). A statement '..UptoSaid' is the law's where the arguments, and the package variables that the reading takes, are together of bulk at most 1048576: NARROWER than '..Said'. Prove '..Said' where nothing that the law and all that it calls make is longer than what came in: it says more and counts as full. Else prove '..UptoSaid'. A law counts once. -/
mutual
def uptoBulk {H : Type} : DataW H → Nat
  | .lit (.string bytes) => bytes.length + 1
  | .lit _ => 1
  | .nil => 1
  | .ptr d => uptoBulk d + 1
  | .slice elems spare => uptoBulkAll elems + uptoBulkAll spare + 1
  | .agg parts => uptoBulkAll parts + 1
  | .iface _ d => uptoBulk d + 1
  | .map entries => uptoBulkEntries entries + 1
  | .held _ => 1
def uptoBulkAll {H : Type} : List (DataW H) → Nat
  | [] => 0
  | d :: r => uptoBulk d + uptoBulkAll r
def uptoBulkEntries {H : Type} : List (Lit × DataW H) → Nat
  | [] => 0
  | x :: r => uptoBulkEntry x + uptoBulkEntries r
def uptoBulkEntry {H : Type} : Lit × DataW H → Nat
  | (.string bytes, d) => bytes.length + uptoBulk d + 1
  | (_, d) => uptoBulk d + 1
 end
def uptoSmall : (H : Type) → List (DataW H) → Bool := fun _ ds => decide (uptoBulkAll ds ≤ 1048576)
def OpenSpec.upto (s : _root_.Go.ChangeSpec) : _root_.Go.OpenSpec := { _root_.Go.OpenSpec.ofChange s with cond := some uptoSmall }

/-- 'laws.FnExactRingStates', WHERE WHAT IT READS IS OF BULK AT MOST 1048576: true; the input reads as it did. -/
def fnExactRingStatesUptoRow : OpenClaim := { program := "ytbbafjmfdbjkaaa", sum := "0c366bb337b767e000d798913263942bab34880e0eae39192330f624ddb132b2", func := "loop.example/firingnets/laws.FnExactRingStates", spec := "fnExactRingStates", unfollowed := true, recurses := true, apart := false, narrowed := true }
def FnExactRingStatesUptoSaid : Prop := fnExactRingStatesUptoRow.holds Try.pinned (OpenSpec.upto fnExactRingStatesSpec)

/-- 'laws.FnRingStates', WHERE WHAT IT READS IS OF BULK AT MOST 1048576: true; the input reads as it did. -/
def fnRingStatesUptoRow : OpenClaim := { program := "ytbbafjmfdbjkaaa", sum := "0c366bb337b767e000d798913263942bab34880e0eae39192330f624ddb132b2", func := "loop.example/firingnets/laws.FnRingStates", spec := "fnRingStates", unfollowed := true, recurses := true, apart := false, narrowed := true }
def FnRingStatesUptoSaid : Prop := fnRingStatesUptoRow.holds Try.pinned (OpenSpec.upto fnRingStatesSpec)

/-- 'laws.FnExactTurnLoop', WHERE WHAT IT READS IS OF BULK AT MOST 1048576: true; the input reads as it did. -/
def fnExactTurnLoopUptoRow : OpenClaim := { program := "ytbbafjmfdbjkaaa", sum := "0c366bb337b767e000d798913263942bab34880e0eae39192330f624ddb132b2", func := "loop.example/firingnets/laws.FnExactTurnLoop", spec := "fnExactTurnLoop", unfollowed := true, recurses := true, apart := false, narrowed := true }
def FnExactTurnLoopUptoSaid : Prop := fnExactTurnLoopUptoRow.holds Try.pinned (OpenSpec.upto fnExactTurnLoopSpec)

/-- 'laws.FnExactStandsAt', WHERE WHAT IT READS IS OF BULK AT MOST 1048576: true; the input reads as it did. -/
def fnExactStandsAtUptoRow : OpenClaim := { program := "ytbbafjmfdbjkaaa", sum := "0c366bb337b767e000d798913263942bab34880e0eae39192330f624ddb132b2", func := "loop.example/firingnets/laws.FnExactStandsAt", spec := "fnExactStandsAt", unfollowed := true, recurses := true, apart := false, narrowed := true }
def FnExactStandsAtUptoSaid : Prop := fnExactStandsAtUptoRow.holds Try.pinned (OpenSpec.upto fnExactStandsAtSpec)

/-- 'laws.FnTurnLoop', WHERE WHAT IT READS IS OF BULK AT MOST 1048576: true; the input reads as it did. -/
def fnTurnLoopUptoRow : OpenClaim := { program := "ytbbafjmfdbjkaaa", sum := "0c366bb337b767e000d798913263942bab34880e0eae39192330f624ddb132b2", func := "loop.example/firingnets/laws.FnTurnLoop", spec := "fnTurnLoop", unfollowed := true, recurses := true, apart := false, narrowed := true }
def FnTurnLoopUptoSaid : Prop := fnTurnLoopUptoRow.holds Try.pinned (OpenSpec.upto fnTurnLoopSpec)

/-- 'laws.FnStandsAt', WHERE WHAT IT READS IS OF BULK AT MOST 1048576: true; the input reads as it did. -/
def fnStandsAtUptoRow : OpenClaim := { program := "ytbbafjmfdbjkaaa", sum := "0c366bb337b767e000d798913263942bab34880e0eae39192330f624ddb132b2", func := "loop.example/firingnets/laws.FnStandsAt", spec := "fnStandsAt", unfollowed := true, recurses := true, apart := false, narrowed := true }
def FnStandsAtUptoSaid : Prop := fnStandsAtUptoRow.holds Try.pinned (OpenSpec.upto fnStandsAtSpec)

/-- 'laws.FnPeakRow', WHERE WHAT IT READS IS OF BULK AT MOST 1048576: true; the input reads as it did. -/
def fnPeakRowUptoRow : OpenClaim := { program := "ytbbafjmfdbjkaaa", sum := "0c366bb337b767e000d798913263942bab34880e0eae39192330f624ddb132b2", func := "loop.example/firingnets/laws.FnPeakRow", spec := "fnPeakRow", unfollowed := true, recurses := true, apart := false, narrowed := true }
def FnPeakRowUptoSaid : Prop := fnPeakRowUptoRow.holds Try.pinned (OpenSpec.upto fnPeakRowSpec)

/-- 'laws.FnFlatOk', WHERE WHAT IT READS IS OF BULK AT MOST 1048576: true; the input reads as it did. -/
def fnFlatOkUptoRow : OpenClaim := { program := "ytbbafjmfdbjkaaa", sum := "0c366bb337b767e000d798913263942bab34880e0eae39192330f624ddb132b2", func := "loop.example/firingnets/laws.FnFlatOk", spec := "fnFlatOk", unfollowed := true, recurses := true, apart := false, narrowed := true }
def FnFlatOkUptoSaid : Prop := fnFlatOkUptoRow.holds Try.pinned (OpenSpec.upto fnFlatOkSpec)

/-- 'laws.FnTreesFlat', WHERE WHAT IT READS IS OF BULK AT MOST 1048576: true; the input reads as it did. -/
def fnTreesFlatUptoRow : OpenClaim := { program := "ytbbafjmfdbjkaaa", sum := "0c366bb337b767e000d798913263942bab34880e0eae39192330f624ddb132b2", func := "loop.example/firingnets/laws.FnTreesFlat", spec := "fnTreesFlat", apart := false, narrowed := true }
def FnTreesFlatUptoSaid : Prop := fnTreesFlatUptoRow.holds Try.pinned (OpenSpec.upto fnTreesFlatSpec)

/-- 'laws.FnWaveEnd', WHERE WHAT IT READS IS OF BULK AT MOST 1048576: true; the input reads as it did. -/
def fnWaveEndUptoRow : OpenClaim := { program := "ytbbafjmfdbjkaaa", sum := "0c366bb337b767e000d798913263942bab34880e0eae39192330f624ddb132b2", func := "loop.example/firingnets/laws.FnWaveEnd", spec := "fnWaveEnd", apart := false, narrowed := true }
def FnWaveEndUptoSaid : Prop := fnWaveEndUptoRow.holds Try.pinned (OpenSpec.upto fnWaveEndSpec)

end Rows
end Go.Proofs.Ytbbafjmfdbjkaaa
