-- Written by a program of this session (the kit's print, changed).
import Derived.Test.YtbbafjmfdbjkaaaSq
import Derived.Test.YtbbafjmfdbjkaaaProg
import Derived.Below
import Derived.Deep.Draws
import Derived.Deep.AppendLies
import Derived.Maps.AppendAt
import Derived.OwnWalk
import Derived.Laws.BytesArg
import Derived.Laws.MakeOwn
import Derived.Laws.OwnMore
import Derived.Deep.OwnRows
import Derived.Tactics
import Derived.Lib.ConvBytes
import Derived.Laws.Slices
import Derived.WalkKit
import Derived.KernelRfl
import Derived.RowKit3
import Derived.Deep.LoopGhost
import Derived.Deep.QuietTactic
import Derived.BigQuiet
import Derived.WideLaws
import Derived.Deep.DeepCutAuto
import Derived.Deep.CutBlock
import Derived.Deep.RegionHeld3
import Derived.Laws.Rows
import Derived.Lib.AppendStr
import Derived.ArgAppend
import Derived.Laws.IdiomCopy
import Derived.OrdersHeld
import Derived.Laws.BitsLemmas
import Derived.RowKit
import Derived.Test.YtbbafjmfdbjkaaaNil
import Derived.Maps.OwnSet
import Derived.Maps.OwnOps
import Derived.Test.YtbbafjmfdbjkaaaWWords
import Derived.Test.YtbbafjmfdbjkaaaWLast
import Derived.Test.YtbbafjmfdbjkaaaWTab
import Derived.Test.YtbbafjmfdbjkaaaWFour
import Derived.Test.YtbbafjmfdbjkaaaWQPut
import Derived.Test.YtbbafjmfdbjkaaaWApart
import Derived.Test.YtbbafjmfdbjkaaaWArr
import Derived.Test.YtbbafjmfdbjkaaaWZeros
import Derived.Test.YtbbafjmfdbjkaaaWFoot
import Derived.Test.YtbbafjmfdbjkaaaWKept
import Derived.Test.YtbbafjmfdbjkaaaWShare
import Derived.Test.YtbbafjmfdbjkaaaWN
import Derived.Test.YtbbafjmfdbjkaaaWFootNe
import Derived.Test.YtbbafjmfdbjkaaaWAt
import Derived.Test.YtbbafjmfdbjkaaaWEqStruct
import Derived.Test.YtbbafjmfdbjkaaaWRepsOne
import Derived.Test.YtbbafjmfdbjkaaaWInv
import Derived.Test.YtbbafjmfdbjkaaaWInvWords
import Derived.Test.YtbbafjmfdbjkaaaWGuard
import Derived.Test.YtbbafjmfdbjkaaaWNEv
import Derived.Test.YtbbafjmfdbjkaaaWMore
namespace Go.Proofs.Ytbbafjmfdbjkaaa.PFnPeakRow
open Go.RowKit Go.Proofs.YtbbafjmfdbjkaaaW.PrintWords Go.Proofs.YtbbafjmfdbjkaaaW.PrintLast Go.Proofs.YtbbafjmfdbjkaaaW.PrintMore
attribute [local go_sem] max2_int min2_int max_two min_two max_three min_three max_four min_four   -- for this text's walks alone
set_option linter.unusedVariables false
set_option linter.unusedSimpArgs false



def errW : Option Int → Value
 | none => .nilIface
 | some c => .iface 0 (.int .i64 c)
theorem errW_none : errW none = .nilIface := rfl
theorem errW_some (c : Int) : errW (some c) = .iface 0 (.int .i64 c) := rfl

theorem info3 : (Try.prog.info? 3).map (fun i => (i.zero, i.size, i.bytes)) = some (some (.int .i64 0), 1, 8) := by kernel_rfl
theorem info4 : (Try.prog.info? 4).map (fun i => (i.zero, i.size, i.bytes)) = some (some (.bool false), 1, 1) := by kernel_rfl
theorem info5 : (Try.prog.info? 5).map (fun i => (i.zero, i.size, i.bytes)) = some (some (.int .u8 0), 1, 1) := by kernel_rfl
-- the values' own types

end Go.Proofs.Ytbbafjmfdbjkaaa.PFnPeakRow
