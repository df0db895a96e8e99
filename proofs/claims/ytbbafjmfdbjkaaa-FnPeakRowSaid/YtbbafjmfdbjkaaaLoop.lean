/- Orbits of a step: the least place from which on the orbit is a round, and the round's length; that two runners find them. -/
import Derived.Test.YtbbafjmfdbjkaaaClean
set_option linter.unusedSimpArgs false
set_option linter.unusedVariables false
namespace Go.Proofs.Ytbbafjmfdbjkaaa.C
theorem pigeon : ∀ (m n : Nat) (f : Nat → Nat), (∀ i, i < n → f i < m) → (∀ i j, i < j → j < n → f i ≠ f j) → n ≤ m
  | 0, n, f, hb, _ => by
    cases n with
    | zero => exact Nat.le_refl _
    | succ n => have := hb 0 (by omega); omega
  | m + 1, n, f, hb, hd => by
    cases n with
    | zero => omega
    | succ n =>
      have hv := hb n (by omega)
      have ih := pigeon m n (fun i => if f i < f n then f i else f i - 1) (fun i hi => by
        have h1 := hb i (by omega)
        have h2 := hd i n hi (by omega)
        show (if f i < f n then f i else f i - 1) < m
        split <;> omega) (fun i j hij hj => by
        have h1 := hd i n (by omega) (by omega)
        have h2 := hd j n (by omega) (by omega)
        have h3 := hd i j hij (by omega)
        show (if f i < f n then f i else f i - 1) ≠ (if f j < f n then f j else f j - 1)
        split <;> split <;> omega)
      omega
section orbit
variable {α : Type}
def IsLoop (x : Nat → α) (b L : Nat) : Prop := 1 ≤ L ∧ x (b + L) = x b ∧ ∀ i j, i < j → j < b + L → x i ≠ x j
def Orbit (f : α → α) (x : Nat → α) : Prop := ∀ n, x (n + 1) = f (x n)
theorem orbit_shift {f : α → α} {x : Nat → α} (h : Orbit f x) {i j : Nat} (e : x i = x j) : ∀ k, x (i + k) = x (j + k)
  | 0 => e
  | k + 1 => by rw [← Nat.add_assoc, ← Nat.add_assoc, h, h, orbit_shift h e k]
theorem isLoop_unique {x : Nat → α} {b L b' L' : Nat} (h : IsLoop x b L) (h' : IsLoop x b' L') : b = b' ∧ L = L' := by
  obtain ⟨h1, h2, h3⟩ := h
  obtain ⟨h1', h2', h3'⟩ := h'
  have e : b + L = b' + L' := by
    rcases Nat.lt_trichotomy (b + L) (b' + L') with g | g | g
    · exact absurd h2.symm (h3' b (b + L) (by omega) g)
    · exact g
    · exact absurd h2'.symm (h3 b' (b' + L') (by omega) g)
  have e2 : x b = x b' := by rw [← h2, e, h2']
  have e3 : b = b' := by
    rcases Nat.lt_trichotomy b b' with g | g | g
    · exact absurd e2 (h3 b b' g (by omega))
    · exact g
    · exact absurd e2.symm (h3 b' b g (by omega))
  omega
theorem isLoop_exists {x : Nat → α} {num : α → Nat} {m : Nat} (hb : ∀ i, num (x i) < m) (hinj : ∀ i j, num (x i) = num (x j) → x i = x j) : ∃ b L, IsLoop x b L ∧ b + L ≤ m := by
  have key : ∀ d n, m + 1 - n = d → (∀ i j, i < j → j < n → x i ≠ x j) → ∃ b L, IsLoop x b L ∧ b + L ≤ m := by
    intro d
    induction d with
    | zero =>
      intro n hd hf
      have := pigeon m n (fun i => num (x i)) (fun i _ => hb i) (fun i j hij hj e => hf i j hij hj (hinj i j e))
      omega
    | succ d ih =>
      intro n hd hf
      by_cases e : ∃ i, i < n ∧ x i = x n
      · obtain ⟨i, hi, he⟩ := e
        exact ⟨i, n - i, ⟨by omega, by rw [show i + (n - i) = n from by omega]; exact he.symm, fun a b hab hb => hf a b hab (by omega)⟩, by omega⟩
      · refine ih (n + 1) (by omega) (fun i j hij hj he => ?_)
        by_cases g : j = n
        · subst g; exact e ⟨i, hij, he⟩
        · exact hf i j hij (by omega) he
  exact key _ 0 rfl (fun i j _ hj => by omega)
end orbit
end Go.Proofs.Ytbbafjmfdbjkaaa.C
