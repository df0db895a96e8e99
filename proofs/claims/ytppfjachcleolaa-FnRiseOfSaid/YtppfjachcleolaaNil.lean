/- A slice that came in and has an element is not nil. -/
import Derived.WalkSpells
import Derived.Test.YtppfjachcleolaaWWords
namespace Go.Proofs.YtppfjachcleolaaW.PrintWords
theorem C_notnil {α : Type} {d : Kd α} {w : World} {A : Option Addr} {n : Nat} {xs : List α} (h : Kd.C d w A n xs) (hn : 0 < xs.length) : A.isNone = false := by
  obtain ⟨ad, rfl, _⟩ := h.2.2 (by have := h.1; omega)
  rfl
end Go.Proofs.YtppfjachcleolaaW.PrintWords
