-- The words of the print that this seat uses (cut down by a program of this session).
import Derived.Test.YtgkjapgfldnjkaaWInv
import Derived.Test.YtgkjapgfldnjkaaWFootNe
namespace Go.Proofs.YtgkjapgfldnjkaaW.PrintWords
open Go.RowKit
end Go.Proofs.YtgkjapgfldnjkaaW.PrintWords
namespace Go.Proofs.YtgkjapgfldnjkaaW.PrintLast
section
variable {ops : Array Oper} {a : Act} {o og : Oper} {g : Nat} {t : Tmp} {u : Bool}
end
end Go.Proofs.YtgkjapgfldnjkaaW.PrintLast
