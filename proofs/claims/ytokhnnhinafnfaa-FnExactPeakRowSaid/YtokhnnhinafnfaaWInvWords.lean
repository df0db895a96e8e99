-- The words of the print that this seat uses (cut down by a program of this session).
import Derived.Test.YtokhnnhinafnfaaWInv
import Derived.Test.YtokhnnhinafnfaaWFootNe
namespace Go.Proofs.YtokhnnhinafnfaaW.PrintWords
open Go.RowKit
end Go.Proofs.YtokhnnhinafnfaaW.PrintWords
namespace Go.Proofs.YtokhnnhinafnfaaW.PrintLast
section
variable {ops : Array Oper} {a : Act} {o og : Oper} {g : Nat} {t : Tmp} {u : Bool}
end
end Go.Proofs.YtokhnnhinafnfaaW.PrintLast
