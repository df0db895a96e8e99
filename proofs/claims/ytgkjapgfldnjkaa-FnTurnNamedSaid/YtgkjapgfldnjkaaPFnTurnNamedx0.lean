-- Written by a program of this session (the kit's print, changed).
import Derived.Test.YtgkjapgfldnjkaaProg
import Derived.Below
import Derived.Deep.Draws
import Derived.Deep.AppendLies
import Derived.Maps.AppendAt
import Derived.OwnWalk
import Derived.Laws.BytesArg
import Derived.Laws.MakeOwn
import Derived.Laws.OwnMore
import Derived.Deep.OwnRows
import Derived.Tactics
import Derived.Lib.ConvBytes
import Derived.Laws.Slices
import Derived.WalkKit
import Derived.KernelRfl
import Derived.RowKit3
import Derived.Deep.LoopGhost
import Derived.Deep.QuietTactic
import Derived.BigQuiet
import Derived.WideLaws
import Derived.Deep.DeepCutAuto
import Derived.Deep.CutBlock
import Derived.Deep.RegionHeld3
import Derived.Laws.Rows
import Derived.Lib.AppendStr
import Derived.ArgAppend
import Derived.Laws.IdiomCopy
import Derived.OrdersHeld
import Derived.Laws.BitsLemmas
import Derived.RowKit
import Derived.Test.YtgkjapgfldnjkaaNil
import Derived.Maps.OwnSet
import Derived.Maps.OwnOps
import Derived.Test.YtgkjapgfldnjkaaWWords
import Derived.Test.YtgkjapgfldnjkaaWLast
import Derived.Test.YtgkjapgfldnjkaaWTab
import Derived.Test.YtgkjapgfldnjkaaWFour
import Derived.Test.YtgkjapgfldnjkaaWQPut
import Derived.Test.YtgkjapgfldnjkaaWApart
import Derived.Test.YtgkjapgfldnjkaaWArr
import Derived.Test.YtgkjapgfldnjkaaWZeros
import Derived.Test.YtgkjapgfldnjkaaWFoot
import Derived.Test.YtgkjapgfldnjkaaWKept
import Derived.Test.YtgkjapgfldnjkaaWShare
import Derived.Test.YtgkjapgfldnjkaaWN
import Derived.Test.YtgkjapgfldnjkaaWFootNe
import Derived.Test.YtgkjapgfldnjkaaWAt
import Derived.Test.YtgkjapgfldnjkaaWEqStruct
import Derived.Test.YtgkjapgfldnjkaaWRepsOne
import Derived.Test.YtgkjapgfldnjkaaWInv
import Derived.Test.YtgkjapgfldnjkaaWInvWords
import Derived.Test.YtgkjapgfldnjkaaWGuard
import Derived.Test.YtgkjapgfldnjkaaWNEv
import Derived.Test.YtgkjapgfldnjkaaWMore
namespace Go.Proofs.Ytgkjapgfldnjkaa.PFnTurnNamed
open Go.RowKit Go.Proofs.YtgkjapgfldnjkaaW.PrintWords Go.Proofs.YtgkjapgfldnjkaaW.PrintLast Go.Proofs.YtgkjapgfldnjkaaW.PrintMore
attribute [local go_sem] max2_int min2_int max_two min_two max_three min_three max_four min_four   -- for this text's walks alone
set_option linter.unusedVariables false
set_option linter.unusedSimpArgs false



def errW : Option Int → Value
  | none => .nilIface
  | some c => .iface 0 (.int .i64 c)
theorem errW_none : errW none = .nilIface := rfl
theorem errW_some (c : Int) : errW (some c) = .iface 0 (.int .i64 c) := rfl

theorem info3 : (Try.prog.info? 3).map (fun i => (i.zero, i.size, i.bytes)) = some (some (.int .i64 0), 1, 8) := by kernel_rfl
theorem info5 : (Try.prog.info? 5).map (fun i => (i.zero, i.size, i.bytes)) = some (some (.int .u8 0), 1, 1) := by kernel_rfl
-- the values' own types

end Go.Proofs.Ytgkjapgfldnjkaa.PFnTurnNamed
