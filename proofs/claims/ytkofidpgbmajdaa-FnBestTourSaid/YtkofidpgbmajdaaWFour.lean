-- The words of the print that this seat uses (cut down by a program of this session).
import Derived.Test.YtkofidpgbmajdaaWTab
namespace Go.Proofs.YtkofidpgbmajdaaW.PrintLast
section
variable {P : Program} {ops : Array Oper} {Q : Exit → Act → World → Prop} {md : Region.Mode} {S : World → Prop} {ds : List Nat} {T : Bool × List (List Nat × List Nat)}
end
end Go.Proofs.YtkofidpgbmajdaaW.PrintLast
