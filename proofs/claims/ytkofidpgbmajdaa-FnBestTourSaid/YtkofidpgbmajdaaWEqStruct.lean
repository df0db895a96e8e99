-- The words of the print that this seat uses (cut down by a program of this session).
import Derived.Test.YtkofidpgbmajdaaWWords
import Derived.Laws.StructEq
namespace Go.Proofs.YtkofidpgbmajdaaW.PrintWords
open Go.RowKit
section
variable {P : Program} {d : Nat} {xs ys : Array Value} {f : Field} {fs : List Field} {a b : Value} {r s : Bool} {w : World}
end
end Go.Proofs.YtkofidpgbmajdaaW.PrintWords
