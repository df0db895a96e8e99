-- The words of the print that this seat uses (cut down by a program of this session).
import Derived.Test.YtkofidpgbmajdaaWN
namespace Go.Proofs.YtkofidpgbmajdaaW.PrintWords
open Go.RowKit
namespace Kd
section
variable {α : Type} {d : Kd α} {W : World} {g n : Nat} {S ok : Nat → Prop} {A : Option Addr} {ad : Addr} {xs : List α}
end
end Kd
end Go.Proofs.YtkofidpgbmajdaaW.PrintWords
