-- The words of the print that this seat uses (cut down by a program of this session).
import Derived.Test.YtbbafjmfdbjkaaaWInv
import Derived.Test.YtbbafjmfdbjkaaaWFootNe
namespace Go.Proofs.YtbbafjmfdbjkaaaW.PrintWords
open Go.RowKit
end Go.Proofs.YtbbafjmfdbjkaaaW.PrintWords
namespace Go.Proofs.YtbbafjmfdbjkaaaW.PrintLast
section
variable {ops : Array Oper} {a : Act} {o og : Oper} {g : Nat} {t : Tmp} {u : Bool}
end
end Go.Proofs.YtbbafjmfdbjkaaaW.PrintLast
