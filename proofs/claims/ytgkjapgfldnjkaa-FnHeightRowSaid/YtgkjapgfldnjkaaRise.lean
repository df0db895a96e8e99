/- The rise from one node to another, as the program tells it. -/
import Derived.Test.YtgkjapgfldnjkaaTurn
set_option linter.unusedSimpArgs false
set_option linter.unusedVariables false
namespace Go.Proofs.Ytgkjapgfldnjkaa.C

/-- What RiseOf tells. -/
def riseOf (l : List Int) (a b : Int) : Int := if StateP 3 l ∧ 0 ≤ a ∧ a < l.length ∧ 0 ≤ b ∧ b < l.length then rise (G l a.toNat) (G l b.toNat) else 0
theorem riseOf_no {l : List Int} {a b : Int} (h : ¬ (StateP 3 l ∧ 0 ≤ a ∧ a < l.length ∧ 0 ≤ b ∧ b < l.length)) : riseOf l a b = 0 := if_neg h
theorem riseOf_yes {l : List Int} {i j : Nat} (h : StateP 3 l) (hi : i < l.length) (hj : j < l.length) : riseOf l (i : Int) (j : Int) = rise (G l i) (G l j) := if_pos ⟨h, by omega, by omega, by omega, by omega⟩
end Go.Proofs.Ytgkjapgfldnjkaa.C
