/- Orbits of a step: the least place from which on the orbit is a round, and the round's length; that two runners find them. -/
import Derived.Test.YtgkjapgfldnjkaaClean
set_option linter.unusedSimpArgs false
set_option linter.unusedVariables false
namespace Go.Proofs.Ytgkjapgfldnjkaa.C

/-- No more than m different numbers below m. -/
theorem pigeon : ∀ (m n : Nat) (f : Nat → Nat), (∀ i, i < n → f i < m) → (∀ i j, i < j → j < n → f i ≠ f j) → n ≤ m
  | 0, n, f, hb, _ => by
    cases n with
    | zero => exact Nat.le_refl _
    | succ n => have := hb 0 (by omega); omega
  | m + 1, n, f, hb, hd => by
    cases n with
    | zero => omega
    | succ n =>
      have hv := hb n (by omega)
      have ih := pigeon m n (fun i => if f i < f n then f i else f i - 1) (fun i hi => by
        have h1 := hb i (by omega)
        have h2 := hd i n hi (by omega)
        show (if f i < f n then f i else f i - 1) < m
        split <;> omega) (fun i j hij hj => by
        have h1 := hd i n (by omega) (by omega)
        have h2 := hd j n (by omega) (by omega)
        have h3 := hd i j hij (by omega)
        show (if f i < f n then f i else f i - 1) ≠ (if f j < f n then f j else f j - 1)
        split <;> split <;> omega)
      omega

section orbit
variable {α : Type}
/-- The orbit x of a step goes into a round of L at b. -/
def IsLoop (x : Nat → α) (b L : Nat) : Prop := 1 ≤ L ∧ x (b + L) = x b ∧ ∀ i j, i < j → j < b + L → x i ≠ x j
def Orbit (f : α → α) (x : Nat → α) : Prop := ∀ n, x (n + 1) = f (x n)
theorem orbit_shift {f : α → α} {x : Nat → α} (h : Orbit f x) {i j : Nat} (e : x i = x j) : ∀ k, x (i + k) = x (j + k)
  | 0 => e
  | k + 1 => by rw [← Nat.add_assoc, ← Nat.add_assoc, h, h, orbit_shift h e k]
theorem isLoop_unique {x : Nat → α} {b L b' L' : Nat} (h : IsLoop x b L) (h' : IsLoop x b' L') : b = b' ∧ L = L' := by
  obtain ⟨h1, h2, h3⟩ := h
  obtain ⟨h1', h2', h3'⟩ := h'
  have e : b + L = b' + L' := by
    rcases Nat.lt_trichotomy (b + L) (b' + L') with g | g | g
    · exact absurd h2.symm (h3' b (b + L) (by omega) g)
    · exact g
    · exact absurd h2'.symm (h3 b' (b' + L') (by omega) g)
  have e2 : x b = x b' := by rw [← h2, e, h2']
  have e3 : b = b' := by
    rcases Nat.lt_trichotomy b b' with g | g | g
    · exact absurd e2 (h3 b b' g (by omega))
    · exact g
    · exact absurd e2.symm (h3 b' b g (by omega))
  omega
theorem isLoop_per {f : α → α} {x : Nat → α} (ho : Orbit f x) {b L : Nat} (h : IsLoop x b L) {i : Nat} (hi : b ≤ i) : ∀ q, x (i + L * q) = x i
  | 0 => by simp
  | q + 1 => by
    have h1 := orbit_shift ho h.2.1 (i - b + L * q)
    have e1 : b + L + (i - b + L * q) = i + L * (q + 1) := by rw [Nat.mul_add]; omega
    have e2 : b + (i - b + L * q) = i + L * q := by omega
    rw [e1, e2] at h1
    rw [h1]; exact isLoop_per ho h hi q
theorem isLoop_mod {f : α → α} {x : Nat → α} (ho : Orbit f x) {b L : Nat} (h : IsLoop x b L) {i : Nat} (hi : b ≤ i) : x i = x (b + (i - b) % L) := by
  have h1 := isLoop_per ho h (i := b + (i - b) % L) (by omega) ((i - b) / L)
  have h2 := Nat.mod_add_div (i - b) L
  have h3 : b + (i - b) % L + L * ((i - b) / L) = i := by omega
  rw [h3] at h1
  exact h1
/-- Which of the orbit's places are the same. -/
theorem isLoop_eq {f : α → α} {x : Nat → α} (ho : Orbit f x) {b L : Nat} (h : IsLoop x b L) {i j : Nat} (hij : i < j) : x i = x j ↔ b ≤ i ∧ (j - i) % L = 0 := by
  have hL := h.1
  constructor
  · intro e
    have hi : b ≤ i := by
      apply Classical.byContradiction
      intro hlt
      by_cases hj : j < b + L
      · exact h.2.2 i j hij hj e
      · have h1 := isLoop_mod ho h (i := j) (by omega)
        have h2 := Nat.mod_lt (j - b) (show 0 < L by omega)
        exact h.2.2 i (b + (j - b) % L) (by omega) (by omega) (by rw [← h1]; exact e)
    refine ⟨hi, ?_⟩
    have h1 := isLoop_mod ho h hi
    have h2 := isLoop_mod ho h (i := j) (by omega)
    have b1 := Nat.mod_lt (i - b) (show 0 < L by omega)
    have b2 := Nat.mod_lt (j - b) (show 0 < L by omega)
    have e2 : x (b + (i - b) % L) = x (b + (j - b) % L) := by rw [← h1, ← h2]; exact e
    have e3 : (i - b) % L = (j - b) % L := by
      rcases Nat.lt_trichotomy ((i - b) % L) ((j - b) % L) with g | g | g
      · exact absurd e2 (h.2.2 _ _ (by omega) (by omega))
      · exact g
      · exact absurd e2.symm (h.2.2 _ _ (by omega) (by omega))
    have e4 : j - i = (j - b) - (i - b) := by omega
    rw [e4]
    exact Nat.sub_mod_eq_zero_of_mod_eq e3.symm
  · rintro ⟨hi, hm⟩
    have h1 := isLoop_per ho h hi ((j - i) / L)
    have h2 := Nat.mod_add_div (j - i) L
    have h3 : i + L * ((j - i) / L) = j := by omega
    rw [h3] at h1
    exact h1.symm
/-- An orbit whose places are told by numbers below m comes to a round, within m steps. -/
theorem isLoop_exists {x : Nat → α} {num : α → Nat} {m : Nat} (hb : ∀ i, num (x i) < m) (hinj : ∀ i j, num (x i) = num (x j) → x i = x j) : ∃ b L, IsLoop x b L ∧ b + L ≤ m := by
  have key : ∀ d n, m + 1 - n = d → (∀ i j, i < j → j < n → x i ≠ x j) → ∃ b L, IsLoop x b L ∧ b + L ≤ m := by
    intro d
    induction d with
    | zero =>
      intro n hd hf
      have := pigeon m n (fun i => num (x i)) (fun i _ => hb i) (fun i j hij hj e => hf i j hij hj (hinj i j e))
      omega
    | succ d ih =>
      intro n hd hf
      by_cases e : ∃ i, i < n ∧ x i = x n
      · obtain ⟨i, hi, he⟩ := e
        exact ⟨i, n - i, ⟨by omega, by rw [show i + (n - i) = n from by omega]; exact he.symm, fun a b hab hb => hf a b hab (by omega)⟩, by omega⟩
      · refine ih (n + 1) (by omega) (fun i j hij hj he => ?_)
        by_cases g : j = n
        · subst g; exact e ⟨i, hij, he⟩
        · exact hf i j hij (by omega) he
  exact key _ 0 rfl (fun i j _ hj => by omega)
/-- What a list of the places gone through tells. -/
theorem isLoop_found {x : Nat → α} {n i : Nat} (hf : ∀ i j, i < j → j < n → x i ≠ x j) (hi : i < n) (he : x i = x n) : IsLoop x i (n - i) :=
  ⟨by omega, by rw [show i + (n - i) = n from by omega]; exact he.symm, fun a b hab hb => hf a b hab (by omega)⟩
theorem isLoop_fresh {x : Nat → α} {n : Nat} (hf : ∀ i j, i < j → j < n → x i ≠ x j) (hn : ∀ i, i < n → x i ≠ x n) : ∀ i j, i < j → j < n + 1 → x i ≠ x j := by
  intro i j hij hj
  by_cases g : j = n
  · subst g; exact hn i hij
  · exact hf i j hij (by omega)
/-! two runners -/
/-- They meet: at some n up to b + L. -/
theorem meet_exists (b L : Nat) (hL : 1 ≤ L) : ∃ n, 1 ≤ n ∧ b ≤ n ∧ n % L = 0 ∧ n ≤ b + L := by
  have h1 := Nat.mod_add_div b L
  have h2 := Nat.mod_lt b (show 0 < L by omega)
  refine ⟨L * (b / L + 1), ?_, ?_, Nat.mul_mod_right _ _, ?_⟩ <;> rw [Nat.mul_add] <;> omega
theorem meet_iff {f : α → α} {x : Nat → α} (ho : Orbit f x) {b L : Nat} (h : IsLoop x b L) {n : Nat} (hn : 1 ≤ n) : x n = x (2 * n) ↔ b ≤ n ∧ n % L = 0 := by
  rw [isLoop_eq ho h (show n < 2 * n by omega), show 2 * n - n = n from by omega]
theorem before_iff {f : α → α} {x : Nat → α} (ho : Orbit f x) {b L : Nat} (h : IsLoop x b L) {n m : Nat} (hn : 1 ≤ n) (hm : n % L = 0) : x m = x (2 * n + m) ↔ b ≤ m := by
  rw [isLoop_eq ho h (show m < 2 * n + m by omega), show 2 * n + m - m = 2 * n from by omega]
  constructor
  · exact fun g => g.1
  · exact fun g => ⟨g, by rw [Nat.mul_mod, hm]; simp⟩
theorem long_iff {f : α → α} {x : Nat → α} (ho : Orbit f x) {b L : Nat} (h : IsLoop x b L) {l : Nat} (h1 : 1 ≤ l) (h2 : l ≤ L) : x b = x (b + l) ↔ l = L := by
  rw [isLoop_eq ho h (show b < b + l by omega), show b + l - b = l from by omega]
  constructor
  · rintro ⟨_, g⟩
    apply Classical.byContradiction
    intro hne
    rw [Nat.mod_eq_of_lt (by omega)] at g
    omega
  · rintro rfl; exact ⟨Nat.le_refl _, Nat.mod_self _⟩
end orbit
end Go.Proofs.Ytgkjapgfldnjkaa.C
