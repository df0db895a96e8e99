/- A slice that came in and has an element is not nil, and '== nil', '!= nil' tell so. -/
import Derived.WalkSpells
import Derived.Deep.Draws
import Derived.Test.YtkofidpgbmajdaaWWords
namespace Go.Proofs.YtkofidpgbmajdaaW.PrintWords
theorem C_notnil {α : Type} {d : Kd α} {w : World} {A : Option Addr} {n : Nat} {xs : List α} (h : Kd.C d w A n xs) (hn : (0 : Int) < (xs.length : Int)) : A.isNone = false := by
  obtain ⟨ad, rfl, _⟩ := h.2.2 (by have := h.1; omega)
  rfl
theorem eql_notnil {P : Program} {t e : TypeId} {A : Option Addr} (h : P.underlying t = some (.slice e)) (hA : A.isNone = false) (w : World) (n c : Nat) :
    (binOp .eql t (.slice A n c) (.slice none 0 0)).run P w = .ok (.bool false) w := by
  simp only [binOp]
  simp [Op.equal, Op.maxDepth, Lib.run_equalIn_slice_nil w 9999 t e A n c 0 0 h, hA]
theorem neq_notnil {P : Program} {t e : TypeId} {A : Option Addr} (h : P.underlying t = some (.slice e)) (hA : A.isNone = false) (w : World) (n c : Nat) :
    (binOp .neq t (.slice A n c) (.slice none 0 0)).run P w = .ok (.bool true) w := by
  simp only [binOp]
  simp [Op.equal, Op.maxDepth, Lib.run_equalIn_slice_nil w 9999 t e A n c 0 0 h, hA]
/-- Behind a draw all is read as before. -/
theorem cell_at_q {W W' : World} {n : Nat} (h : W.drewN n = W') (a : Addr) : W'.cell? a = W.cell? a := by subst h; rfl
theorem frozen_at_q {W W' : World} {n : Nat} (h : W.drewN n = W') (a : Addr) : W'.frozen? a = W.frozen? a := by subst h; rfl
theorem eql_isnil {P : Program} {t e : TypeId} (h : P.underlying t = some (.slice e)) (w : World) :
    (binOp .eql t (.slice none 0 0) (.slice none 0 0)).run P w = .ok (.bool true) w := by
  simp only [binOp]
  simp [Op.equal, Op.maxDepth, Lib.run_equalIn_slice_nil w 9999 t e none 0 0 0 0 h]
theorem neq_isnil {P : Program} {t e : TypeId} (h : P.underlying t = some (.slice e)) (w : World) :
    (binOp .neq t (.slice none 0 0) (.slice none 0 0)).run P w = .ok (.bool false) w := by
  simp only [binOp]
  simp [Op.equal, Op.maxDepth, Lib.run_equalIn_slice_nil w 9999 t e none 0 0 0 0 h]
end Go.Proofs.YtkofidpgbmajdaaW.PrintWords
