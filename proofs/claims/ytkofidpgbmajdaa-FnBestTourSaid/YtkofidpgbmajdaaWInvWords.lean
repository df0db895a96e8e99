-- The words of the print that this seat uses (cut down by a program of this session).
import Derived.Test.YtkofidpgbmajdaaWInv
import Derived.Test.YtkofidpgbmajdaaWFootNe
namespace Go.Proofs.YtkofidpgbmajdaaW.PrintWords
open Go.RowKit
end Go.Proofs.YtkofidpgbmajdaaW.PrintWords
namespace Go.Proofs.YtkofidpgbmajdaaW.PrintLast
section
variable {ops : Array Oper} {a : Act} {o og : Oper} {g : Nat} {t : Tmp} {u : Bool}
end
end Go.Proofs.YtkofidpgbmajdaaW.PrintLast
