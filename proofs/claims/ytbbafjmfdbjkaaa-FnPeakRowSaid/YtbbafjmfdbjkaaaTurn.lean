/- Turning wheels, in plain lists: a turn, runs of turns, how often each node turns, and that this is what tours climb. -/
import Derived.Test.YtbbafjmfdbjkaaaClean
set_option linter.unusedSimpArgs false
set_option linter.unusedVariables false
namespace Go.Proofs.Ytbbafjmfdbjkaaa.C
def mxi (a b : Int) : Int := if a < b then b else a
theorem le_mxi_left (a b : Int) : a ≤ mxi a b := by unfold mxi; split <;> omega
theorem le_mxi_right (a b : Int) : b ≤ mxi a b := by unfold mxi; split <;> omega
theorem mxi_or (a b : Int) : mxi a b = a ∨ mxi a b = b := by unfold mxi; split <;> omega
def Goes (net s : List Int) (i : Nat) : Prop := ∃ j, j < s.length ∧ adj net i j ∧ G s j = (G s i + 1) % 3
instance (net s : List Int) (i : Nat) : Decidable (Goes net s i) := by unfold Goes; infer_instance
def GoesTo (net s : List Int) (i n : Nat) : Prop := ∃ j, j < n ∧ adj net i j ∧ G s j = (G s i + 1) % 3
theorem goesTo_succ {net s : List Int} {i n : Nat} : GoesTo net s i (n + 1) ↔ GoesTo net s i n ∨ (adj net i n ∧ G s n = (G s i + 1) % 3) := by
  constructor
  · rintro ⟨j, hj, h⟩
    by_cases e : j = n
    · subst e; exact Or.inr h
    · exact Or.inl ⟨j, by omega, h⟩
  · rintro (⟨j, hj, h⟩ | h)
    · exact ⟨j, by omega, h⟩
    · exact ⟨n, by omega, h⟩
instance (net s : List Int) (i n : Nat) : Decidable (GoesTo net s i n) := by unfold GoesTo; infer_instance
theorem goesTo_all {net s : List Int} {i : Nat} : GoesTo net s i s.length ↔ Goes net s i := Iff.rfl
theorem goesTo_zero {net s : List Int} {i : Nat} : ¬ GoesTo net s i 0 := by rintro ⟨j, hj, _⟩; omega
def turn (net s : List Int) : List Int := mk s.length (fun i => if Goes net s i then (G s i + 1) % 3 else G s i)
theorem turn_length (net s : List Int) : (turn net s).length = s.length := mk_length _ _
theorem G_turn {net s : List Int} {i : Nat} (hi : i < s.length) : G (turn net s) i = if Goes net s i then (G s i + 1) % 3 else G s i := G_mk _ hi
theorem turn_ok {net s : List Int} (h : Asked net 3 s) : Asked net 3 (turn net s) := by
  obtain ⟨hn, hs, hl⟩ := h
  refine ⟨hn, ⟨by omega, by omega, by rw [turn_length]; exact hs.2.2.1, by rw [turn_length]; exact hs.2.2.2.1, fun i hi => ?_⟩, by rw [turn_length]; exact hl⟩
  rw [turn_length] at hi
  rw [G_turn hi]
  have := hs.2.2.2.2 i hi
  split <;> omega
def turnN (net s : List Int) : Nat → List Int
  | 0 => s
  | t + 1 => turn net (turnN net s t)
theorem turnN_ok {net s : List Int} (h : Asked net 3 s) : ∀ t, Asked net 3 (turnN net s t)
  | 0 => h
  | t + 1 => turn_ok (turnN_ok h t)
theorem turnN_length (net s : List Int) : ∀ t, (turnN net s t).length = s.length
  | 0 => rfl
  | t + 1 => by rw [turnN, turn_length, turnN_length net s t]
def went (net s : List Int) (i : Nat) : Int := if Goes net s i then 1 else 0
theorem went_bd (net s : List Int) (i : Nat) : 0 ≤ went net s i ∧ went net s i ≤ 1 := by unfold went; split <;> omega
theorem turn_ne {net s : List Int} (h : Asked net 3 s) {i : Nat} (hi : i < s.length) : G (turn net s) i = G s i ↔ ¬ Goes net s i := by
  have := h.2.1.2.2.2.2 i hi
  rw [G_turn hi]
  by_cases e : Goes net s i
  · simp only [e, if_true, not_true]; constructor
    · intro; omega
    · intro h; exact h.elim
  · simp [e]
theorem turn_went {net s : List Int} (h : Asked net 3 s) {i : Nat} (hi : i < s.length) : G (turn net s) i = (G s i + went net s i) % 3 := by
  have := h.2.1.2.2.2.2 i hi
  rw [G_turn hi]; unfold went
  split <;> omega
def turnedN (net s : List Int) (t i : Nat) : Int := sumN (fun q => went net (turnN net s q) i) t
theorem turnedN_zero (net s : List Int) (i : Nat) : turnedN net s 0 i = 0 := rfl
theorem turnedN_succ (net s : List Int) (t i : Nat) : turnedN net s (t + 1) i = turnedN net s t i + went net (turnN net s t) i := rfl
theorem turnedN_bd (net s : List Int) (t i : Nat) : 0 ≤ turnedN net s t i ∧ turnedN net s t i ≤ t := by
  induction t with
  | zero => simp [turnedN_zero]
  | succ t ih => rw [turnedN_succ]; have := went_bd net (turnN net s t) i; omega
theorem rise_turn {net s : List Int} (h : Asked net 3 s) {i j : Nat} (hi : i < s.length) (hj : j < s.length) (ha : adj net i j) :
    rise (G (turn net s) i) (G (turn net s) j) = rise (G s i) (G s j) + went net s j - went net s i := by
  have bi := h.2.1.2.2.2.2 i hi
  have bj := h.2.1.2.2.2.2 j hj
  have g1 : G s j = (G s i + 1) % 3 → Goes net s i := fun e => ⟨j, hj, ha, e⟩
  have g2 : G s i = (G s j + 1) % 3 → Goes net s j := fun e => ⟨i, hi, (adj_sym h.1 (by rw [h.2.2]; exact hi) (by rw [h.2.2]; exact hj)).1 ha, e⟩
  rw [turn_went h hi, turn_went h hj]
  unfold went rise
  by_cases e1 : Goes net s i <;> by_cases e2 : Goes net s j
  · simp only [e1, e2, if_true]; omega
  · simp only [e1, e2, if_true, if_false]
    have n2 : ¬ (G s i = (G s j + 1) % 3) := fun e => e2 (g2 e)
    omega
  · simp only [e1, e2, if_true, if_false]
    have n1 : ¬ (G s j = (G s i + 1) % 3) := fun e => e1 (g1 e)
    omega
  · simp only [e1, e2, if_false]; omega
theorem rise_turnN {net s : List Int} (h : Asked net 3 s) {i j : Nat} (hi : i < s.length) (hj : j < s.length) (ha : adj net i j) :
    ∀ t, rise (G (turnN net s t) i) (G (turnN net s t) j) = rise (G s i) (G s j) + turnedN net s t j - turnedN net s t i
  | 0 => by rw [turnedN_zero, turnedN_zero, turnN]; omega
  | t + 1 => by
    rw [turnN, rise_turn (turnN_ok h t) (by rw [turnN_length]; exact hi) (by rw [turnN_length]; exact hj) ha, rise_turnN h hi hj ha t, turnedN_succ, turnedN_succ]
    omega
theorem goes_iff_rise {net s : List Int} (h : Asked net 3 s) {i : Nat} (hi : i < s.length) : Goes net s i ↔ ∃ j, j < s.length ∧ adj net i j ∧ rise (G s i) (G s j) = 1 := by
  have bi := h.2.1.2.2.2.2 i hi
  constructor
  · rintro ⟨j, hj, ha, e⟩
    have bj := h.2.1.2.2.2.2 j hj
    exact ⟨j, hj, ha, by unfold rise; omega⟩
  · rintro ⟨j, hj, ha, e⟩
    have bj := h.2.1.2.2.2.2 j hj
    unfold rise at e
    exact ⟨j, hj, ha, by omega⟩
theorem rise_le (a b : Int) : -1 ≤ rise a b ∧ rise a b ≤ 1 := by unfold rise; omega
theorem turnedN_mono (net s : List Int) (t i : Nat) : turnedN net s t i ≤ turnedN net s (t + 1) i := by
  rw [turnedN_succ]; have := went_bd net (turnN net s t) i; omega
def turnedRow (net s : List Int) (t : Int) : List Int := if Asked net 3 s ∧ 0 ≤ t ∧ t ≤ 60 then mk s.length (turnedN net s t.toNat) else []
theorem turnedRow_yes {net s : List Int} {t : Nat} (h : Asked net 3 s) (ht : t ≤ 60) : turnedRow net s (t : Int) = mk s.length (turnedN net s t) := if_pos ⟨h, by omega, by omega⟩
theorem turnedRow_no {net s : List Int} {t : Int} (h : ¬ (Asked net 3 s ∧ 0 ≤ t ∧ t ≤ 60)) : turnedRow net s t = [] := if_neg h
end Go.Proofs.Ytbbafjmfdbjkaaa.C
