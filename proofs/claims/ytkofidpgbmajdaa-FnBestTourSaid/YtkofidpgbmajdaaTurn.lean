/- Turning wheels, in plain lists: a turn, runs of turns, how often each node turns, and that this is what tours climb. -/
import Derived.Test.YtkofidpgbmajdaaClean
set_option linter.unusedSimpArgs false
set_option linter.unusedVariables false
namespace Go.Proofs.Ytkofidpgbmajdaa.C

def mxi (a b : Int) : Int := if a < b then b else a
theorem le_mxi_left (a b : Int) : a ≤ mxi a b := by unfold mxi; split <;> omega
theorem le_mxi_right (a b : Int) : b ≤ mxi a b := by unfold mxi; split <;> omega
theorem mxi_le {a b c : Int} (h1 : a ≤ c) (h2 : b ≤ c) : mxi a b ≤ c := by unfold mxi; split <;> omega
theorem mxi_or (a b : Int) : mxi a b = a ∨ mxi a b = b := by unfold mxi; split <;> omega

/-- The greatest of init and of the values of the neighbours among the first n. -/
def maxA (net : List Int) (i : Nat) (v : Nat → Int) (init : Int) : Nat → Int
  | 0 => init
  | n + 1 => if adj net i n then mxi (maxA net i v init n) (v n) else maxA net i v init n
theorem maxA_init (net : List Int) (i : Nat) (v : Nat → Int) (init : Int) (n : Nat) : init ≤ maxA net i v init n := by
  induction n with
  | zero => exact Int.le_refl _
  | succ n ih =>
    simp only [maxA]
    split
    · exact Int.le_trans ih (le_mxi_left _ _)
    · exact ih
theorem maxA_ge {net : List Int} {i : Nat} {v : Nat → Int} {init : Int} {n j : Nat} (hj : j < n) (ha : adj net i j) : v j ≤ maxA net i v init n := by
  induction n with
  | zero => omega
  | succ n ih =>
    simp only [maxA]
    by_cases e : j = n
    · subst e; rw [if_pos ha]; exact le_mxi_right _ _
    · have := ih (by omega)
      split
      · exact Int.le_trans this (le_mxi_left _ _)
      · exact this
theorem maxA_le {net : List Int} {i : Nat} {v : Nat → Int} {init m : Int} {n : Nat} (h0 : init ≤ m) (h : ∀ j, j < n → adj net i j → v j ≤ m) : maxA net i v init n ≤ m := by
  induction n with
  | zero => exact h0
  | succ n ih =>
    simp only [maxA]
    have h1 := ih (fun j hj ha => h j (by omega) ha)
    by_cases e : adj net i n
    · rw [if_pos e]; exact mxi_le h1 (h n (by omega) e)
    · rw [if_neg e]; exact h1
theorem maxA_or (net : List Int) (i : Nat) (v : Nat → Int) (init : Int) (n : Nat) : maxA net i v init n = init ∨ ∃ j, j < n ∧ adj net i j ∧ maxA net i v init n = v j := by
  induction n with
  | zero => exact Or.inl rfl
  | succ n ih =>
    simp only [maxA]
    by_cases e : adj net i n
    · rw [if_pos e]
      rcases mxi_or (maxA net i v init n) (v n) with h | h
      · rw [h]
        rcases ih with h1 | ⟨j, hj, ha, h1⟩
        · exact Or.inl h1
        · exact Or.inr ⟨j, by omega, ha, h1⟩
      · exact Or.inr ⟨n, by omega, e, h⟩
    · rw [if_neg e]
      rcases ih with h1 | ⟨j, hj, ha, h1⟩
      · exact Or.inl h1
      · exact Or.inr ⟨j, by omega, ha, h1⟩
theorem maxA_congr {net : List Int} {i : Nat} {v u : Nat → Int} {init : Int} {n : Nat} (h : ∀ j, j < n → v j = u j) : maxA net i v init n = maxA net i u init n := by
  induction n with
  | zero => rfl
  | succ n ih => simp only [maxA]; rw [ih (fun j hj => h j (by omega)), h n (by omega)]

/-! a turn -/
def Goes (net s : List Int) (i : Nat) : Prop := ∃ j, j < s.length ∧ adj net i j ∧ G s j = (G s i + 1) % 3
instance (net s : List Int) (i : Nat) : Decidable (Goes net s i) := by unfold Goes; infer_instance
/-- Whether a neighbour among the first n pulls node i on. -/
def GoesTo (net s : List Int) (i n : Nat) : Prop := ∃ j, j < n ∧ adj net i j ∧ G s j = (G s i + 1) % 3
theorem goesTo_succ {net s : List Int} {i n : Nat} : GoesTo net s i (n + 1) ↔ GoesTo net s i n ∨ (adj net i n ∧ G s n = (G s i + 1) % 3) := by
  constructor
  · rintro ⟨j, hj, h⟩
    by_cases e : j = n
    · subst e; exact Or.inr h
    · exact Or.inl ⟨j, by omega, h⟩
  · rintro (⟨j, hj, h⟩ | h)
    · exact ⟨j, by omega, h⟩
    · exact ⟨n, by omega, h⟩
instance (net s : List Int) (i n : Nat) : Decidable (GoesTo net s i n) := by unfold GoesTo; infer_instance
theorem goesTo_all {net s : List Int} {i : Nat} : GoesTo net s i s.length ↔ Goes net s i := Iff.rfl
theorem goesTo_zero {net s : List Int} {i : Nat} : ¬ GoesTo net s i 0 := by rintro ⟨j, hj, _⟩; omega
def turn (net s : List Int) : List Int := mk s.length (fun i => if Goes net s i then (G s i + 1) % 3 else G s i)
theorem turn_length (net s : List Int) : (turn net s).length = s.length := mk_length _ _
theorem G_turn {net s : List Int} {i : Nat} (hi : i < s.length) : G (turn net s) i = if Goes net s i then (G s i + 1) % 3 else G s i := G_mk _ hi
theorem turn_ok {net s : List Int} (h : Asked net 3 s) : Asked net 3 (turn net s) := by
  obtain ⟨hn, hs, hl⟩ := h
  refine ⟨hn, ⟨by omega, by omega, by rw [turn_length]; exact hs.2.2.1, by rw [turn_length]; exact hs.2.2.2.1, fun i hi => ?_⟩, by rw [turn_length]; exact hl⟩
  rw [turn_length] at hi
  rw [G_turn hi]
  have := hs.2.2.2.2 i hi
  split <;> omega
def turnN (net s : List Int) : Nat → List Int
  | 0 => s
  | t + 1 => turn net (turnN net s t)
theorem turnN_ok {net s : List Int} (h : Asked net 3 s) : ∀ t, Asked net 3 (turnN net s t)
  | 0 => h
  | t + 1 => turn_ok (turnN_ok h t)
theorem turnN_length (net s : List Int) : ∀ t, (turnN net s t).length = s.length
  | 0 => rfl
  | t + 1 => by rw [turnN, turn_length, turnN_length net s t]
theorem turnN_add (net s : List Int) (a : Nat) : ∀ b, turnN net (turnN net s a) b = turnN net s (a + b)
  | 0 => rfl
  | b + 1 => by rw [turnN, turnN_add net s a b]; rfl
/-- 1 if node i goes on in a turn of s. -/
def went (net s : List Int) (i : Nat) : Int := if Goes net s i then 1 else 0
theorem went_bd (net s : List Int) (i : Nat) : 0 ≤ went net s i ∧ went net s i ≤ 1 := by unfold went; split <;> omega
theorem turn_ne {net s : List Int} (h : Asked net 3 s) {i : Nat} (hi : i < s.length) : G (turn net s) i = G s i ↔ ¬ Goes net s i := by
  have := h.2.1.2.2.2.2 i hi
  rw [G_turn hi]
  by_cases e : Goes net s i
  · simp only [e, if_true, not_true]; constructor
    · intro; omega
    · intro h; exact h.elim
  · simp [e]
theorem turn_went {net s : List Int} (h : Asked net 3 s) {i : Nat} (hi : i < s.length) : G (turn net s) i = (G s i + went net s i) % 3 := by
  have := h.2.1.2.2.2.2 i hi
  rw [G_turn hi]; unfold went
  split <;> omega
/-- How often node i goes on in t turns. -/
def turnedN (net s : List Int) (t i : Nat) : Int := sumN (fun q => went net (turnN net s q) i) t
theorem turnedN_zero (net s : List Int) (i : Nat) : turnedN net s 0 i = 0 := rfl
theorem turnedN_succ (net s : List Int) (t i : Nat) : turnedN net s (t + 1) i = turnedN net s t i + went net (turnN net s t) i := rfl
theorem turnedN_bd (net s : List Int) (t i : Nat) : 0 ≤ turnedN net s t i ∧ turnedN net s t i ≤ t := by
  induction t with
  | zero => simp [turnedN_zero]
  | succ t ih => rw [turnedN_succ]; have := went_bd net (turnN net s t) i; omega
theorem turnedN_add (net s : List Int) (a i : Nat) : ∀ b, turnedN net s (a + b) i = turnedN net s a i + turnedN net (turnN net s a) b i
  | 0 => by simp [turnedN_zero]
  | b + 1 => by
    rw [← Nat.add_assoc, turnedN_succ, turnedN_add net s a i b, turnedN_succ, turnN_add]
    omega
theorem turnN_kind {net s : List Int} (h : Asked net 3 s) {i : Nat} (hi : i < s.length) : ∀ t, G (turnN net s t) i = (G s i + turnedN net s t i) % 3
  | 0 => by have := h.2.1.2.2.2.2 i hi; rw [turnedN_zero, turnN]; omega
  | t + 1 => by
    rw [turnN, turn_went (turnN_ok h t) (by rw [turnN_length]; exact hi), turnN_kind h hi t, turnedN_succ]
    omega
theorem rise_turn {net s : List Int} (h : Asked net 3 s) {i j : Nat} (hi : i < s.length) (hj : j < s.length) (ha : adj net i j) :
    rise (G (turn net s) i) (G (turn net s) j) = rise (G s i) (G s j) + went net s j - went net s i := by
  have bi := h.2.1.2.2.2.2 i hi
  have bj := h.2.1.2.2.2.2 j hj
  have g1 : G s j = (G s i + 1) % 3 → Goes net s i := fun e => ⟨j, hj, ha, e⟩
  have g2 : G s i = (G s j + 1) % 3 → Goes net s j := fun e => ⟨i, hi, (adj_sym h.1 (by rw [h.2.2]; exact hi) (by rw [h.2.2]; exact hj)).1 ha, e⟩
  rw [turn_went h hi, turn_went h hj]
  unfold went rise
  by_cases e1 : Goes net s i <;> by_cases e2 : Goes net s j
  · simp only [e1, e2, if_true]; omega
  · simp only [e1, e2, if_true, if_false]
    have n2 : ¬ (G s i = (G s j + 1) % 3) := fun e => e2 (g2 e)
    omega
  · simp only [e1, e2, if_true, if_false]
    have n1 : ¬ (G s j = (G s i + 1) % 3) := fun e => e1 (g1 e)
    omega
  · simp only [e1, e2, if_false]; omega
theorem rise_turnN {net s : List Int} (h : Asked net 3 s) {i j : Nat} (hi : i < s.length) (hj : j < s.length) (ha : adj net i j) :
    ∀ t, rise (G (turnN net s t) i) (G (turnN net s t) j) = rise (G s i) (G s j) + turnedN net s t j - turnedN net s t i
  | 0 => by rw [turnedN_zero, turnedN_zero, turnN]; omega
  | t + 1 => by
    rw [turnN, rise_turn (turnN_ok h t) (by rw [turnN_length]; exact hi) (by rw [turnN_length]; exact hj) ha, rise_turnN h hi hj ha t, turnedN_succ, turnedN_succ]
    omega
theorem goes_iff_rise {net s : List Int} (h : Asked net 3 s) {i : Nat} (hi : i < s.length) : Goes net s i ↔ ∃ j, j < s.length ∧ adj net i j ∧ rise (G s i) (G s j) = 1 := by
  have bi := h.2.1.2.2.2.2 i hi
  constructor
  · rintro ⟨j, hj, ha, e⟩
    have bj := h.2.1.2.2.2.2 j hj
    exact ⟨j, hj, ha, by unfold rise; omega⟩
  · rintro ⟨j, hj, ha, e⟩
    have bj := h.2.1.2.2.2.2 j hj
    unfold rise at e
    exact ⟨j, hj, ha, by omega⟩
theorem rise_le (a b : Int) : -1 ≤ rise a b ∧ rise a b ≤ 1 := by unfold rise; omega
/-- How often a node has gone on is told by its neighbours. -/
theorem turnedN_max {net s : List Int} (h : Asked net 3 s) {i : Nat} (hi : i < s.length) (t : Nat) :
    turnedN net s (t + 1) i = maxA net i (fun j => rise (G s i) (G s j) + turnedN net s t j) (turnedN net s t i) s.length := by
  have ht := turnN_ok h t
  have hit : i < (turnN net s t).length := by rw [turnN_length]; exact hi
  have hup : ∀ j, j < s.length → adj net i j → rise (G s i) (G s j) + turnedN net s t j ≤ turnedN net s t i + 1 := by
    intro j hj ha
    have h1 := rise_turnN h hi hj ha t
    have h2 := rise_le (G (turnN net s t) i) (G (turnN net s t) j)
    omega
  rw [turnedN_succ]
  unfold went
  by_cases e : Goes net (turnN net s t) i
  · rw [if_pos e]
    obtain ⟨j, hj, ha, e1⟩ := (goes_iff_rise ht hit).1 e
    rw [turnN_length] at hj
    have h1 := rise_turnN h hi hj ha t
    have h2 := maxA_ge (v := fun j => rise (G s i) (G s j) + turnedN net s t j) (init := turnedN net s t i) hj ha
    have h3 := maxA_le (net := net) (i := i) (v := fun j => rise (G s i) (G s j) + turnedN net s t j) (init := turnedN net s t i) (m := turnedN net s t i + 1) (n := s.length) (by omega) hup
    try simp only at h2
    omega
  · rw [if_neg e]
    have h1 := maxA_init net i (fun j => rise (G s i) (G s j) + turnedN net s t j) (turnedN net s t i) s.length
    have h3 := maxA_le (net := net) (i := i) (v := fun j => rise (G s i) (G s j) + turnedN net s t j) (init := turnedN net s t i) (m := turnedN net s t i) (n := s.length) (by omega) (by
      intro j hj ha
      have h1 := rise_turnN h hi hj ha t
      have h2 := rise_le (G (turnN net s t) i) (G (turnN net s t) j)
      by_cases e1 : rise (G (turnN net s t) i) (G (turnN net s t) j) = 1
      · exact absurd ((goes_iff_rise ht hit).2 ⟨j, by rw [turnN_length]; exact hj, ha, e1⟩) e
      · omega)
    omega
theorem turnedN_mono (net s : List Int) (t i : Nat) : turnedN net s t i ≤ turnedN net s (t + 1) i := by
  rw [turnedN_succ]; have := went_bd net (turnN net s t) i; omega
/-- The same, begun with 0. -/
theorem turnedN_max0 {net s : List Int} (h : Asked net 3 s) : ∀ (t : Nat) {i : Nat} (_ : i < s.length),
    turnedN net s (t + 1) i = maxA net i (fun j => rise (G s i) (G s j) + turnedN net s t j) 0 s.length
  | 0, i, hi => by rw [turnedN_max h hi 0]; rfl
  | t + 1, i, hi => by
    have ih := turnedN_max0 h t hi
    have h1 := turnedN_max h hi (t + 1)
    have up : maxA net i (fun j => rise (G s i) (G s j) + turnedN net s t j) 0 s.length ≤ maxA net i (fun j => rise (G s i) (G s j) + turnedN net s (t + 1) j) 0 s.length := by
      refine maxA_le (maxA_init _ _ _ _ _) (fun j hj ha => ?_)
      refine Int.le_trans ?_ (maxA_ge hj ha)
      have := turnedN_mono net s t j
      omega
    rw [h1]
    apply Int.le_antisymm
    · refine maxA_le ?_ (fun j hj ha => maxA_ge (v := fun j => rise (G s i) (G s j) + turnedN net s (t + 1) j) hj ha)
      rw [ih]; exact up
    · refine maxA_le ?_ (fun j hj ha => maxA_ge (v := fun j => rise (G s i) (G s j) + turnedN net s (t + 1) j) hj ha)
      refine Int.le_trans ?_ (maxA_init _ _ _ _ _)
      exact (turnedN_bd net s (t + 1) i).1
/-! clean results -/
def stillOk (net s : List Int) : Bool := decide (Asked net 3 s ∧ turn net s = s)
def turnStep (net s : List Int) : List Int := if Asked net 3 s then turn net s else []
def turnRun (net s : List Int) (t : Int) : List Int := if Asked net 3 s ∧ 0 ≤ t ∧ t ≤ 60 then turnN net s t.toNat else []
def turnedRow (net s : List Int) (t : Int) : List Int := if Asked net 3 s ∧ 0 ≤ t ∧ t ≤ 60 then mk s.length (turnedN net s t.toNat) else []
theorem turnStep_yes {net s : List Int} (h : Asked net 3 s) : turnStep net s = turn net s := if_pos h
theorem turnStep_no {net s : List Int} (h : ¬ Asked net 3 s) : turnStep net s = [] := if_neg h
theorem turnRun_yes {net s : List Int} {t : Nat} (h : Asked net 3 s) (ht : t ≤ 60) : turnRun net s (t : Int) = turnN net s t := if_pos ⟨h, by omega, by omega⟩
theorem turnRun_no {net s : List Int} {t : Int} (h : ¬ (Asked net 3 s ∧ 0 ≤ t ∧ t ≤ 60)) : turnRun net s t = [] := if_neg h
theorem turnedRow_yes {net s : List Int} {t : Nat} (h : Asked net 3 s) (ht : t ≤ 60) : turnedRow net s (t : Int) = mk s.length (turnedN net s t) := if_pos ⟨h, by omega, by omega⟩
theorem turnedRow_no {net s : List Int} {t : Int} (h : ¬ (Asked net 3 s ∧ 0 ≤ t ∧ t ≤ 60)) : turnedRow net s t = [] := if_neg h
theorem turnStep_length (net s : List Int) : (turnStep net s).length ≤ 6 := by
  unfold turnStep; split
  · rename_i h; rw [turn_length]; exact asked6 h
  · simp
theorem turnRun_length (net s : List Int) (t : Int) : (turnRun net s t).length ≤ 6 := by
  unfold turnRun; split
  · rename_i h; rw [turnN_length]; exact asked6 h.1
  · simp
theorem turnedRow_length (net s : List Int) (t : Int) : (turnedRow net s t).length ≤ 6 := by
  unfold turnedRow; split
  · rename_i h; rw [mk_length]; exact asked6 h.1
  · simp
end Go.Proofs.Ytkofidpgbmajdaa.C
