/- Firing: a step, runs, rest; waves from lit nodes; with three kinds heights stay heights. -/
import Derived.Test.YtbbafjmfdbjkaaaSteps
import Derived.Test.YtbbafjmfdbjkaaaHeights
set_option linter.unusedSimpArgs false
set_option linter.unusedVariables false
namespace Go.Proofs.Ytbbafjmfdbjkaaa.C
def Fires (net s : List Int) (i : Nat) : Prop := ∃ j, j < s.length ∧ adj net i j ∧ G s j = 1
instance (net s : List Int) (i : Nat) : Decidable (Fires net s i) := by unfold Fires; infer_instance
theorem turnN_orbit (net s : List Int) : Orbit (turn net) (turnN net s) := fun _ => rfl
def AtRest (s : List Int) : Prop := ∀ i, i < s.length → G s i = 0
instance (s : List Int) : Decidable (AtRest s) := by unfold AtRest; infer_instance
open Classical in
def seenOf (num : Nat → Int) : Nat → List Int
  | 0 => []
  | n + 1 => num n :: seenOf num n
theorem seenOf_length (num : Nat → Int) : ∀ n, (seenOf num n).length = n
  | 0 => rfl
  | n + 1 => by simp only [seenOf, List.length_cons, seenOf_length num n]
def lit (n : Nat) (set : Int) : List Int := mk n (fun i => set / 2 ^ i % 2)
end Go.Proofs.Ytbbafjmfdbjkaaa.C
