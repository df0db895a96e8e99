-- The words of the print that this seat uses (cut down by a program of this session).
import Derived.Test.YtcjjiajcjooccaaWInv
import Derived.Test.YtcjjiajcjooccaaWFootNe
namespace Go.Proofs.YtcjjiajcjooccaaW.PrintWords
open Go.RowKit
end Go.Proofs.YtcjjiajcjooccaaW.PrintWords
namespace Go.Proofs.YtcjjiajcjooccaaW.PrintLast
section
variable {ops : Array Oper} {a : Act} {o og : Oper} {g : Nat} {t : Tmp} {u : Bool}
end
end Go.Proofs.YtcjjiajcjooccaaW.PrintLast
