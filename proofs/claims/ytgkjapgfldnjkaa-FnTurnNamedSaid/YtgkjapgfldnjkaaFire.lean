/- Firing: a step, runs, rest; waves from lit nodes; with three kinds heights stay heights. -/
import Derived.Test.YtgkjapgfldnjkaaSteps
import Derived.Test.YtgkjapgfldnjkaaHeights
set_option linter.unusedSimpArgs false
set_option linter.unusedVariables false
namespace Go.Proofs.Ytgkjapgfldnjkaa.C

def Fires (net s : List Int) (i : Nat) : Prop := ∃ j, j < s.length ∧ adj net i j ∧ G s j = 1
instance (net s : List Int) (i : Nat) : Decidable (Fires net s i) := by unfold Fires; infer_instance
def fire (net : List Int) (kinds : Int) (s : List Int) : List Int := mk s.length (fun i => if 0 < G s i then (G s i + 1) % kinds else if Fires net s i then 1 else 0)
theorem fire_length (net : List Int) (kinds : Int) (s : List Int) : (fire net kinds s).length = s.length := mk_length _ _
theorem G_fire {net : List Int} {kinds : Int} {s : List Int} {i : Nat} (hi : i < s.length) : G (fire net kinds s) i = if 0 < G s i then (G s i + 1) % kinds else if Fires net s i then 1 else 0 := G_mk _ hi
theorem fire_ok {net : List Int} {kinds : Int} {s : List Int} (h : Asked net kinds s) : Asked net kinds (fire net kinds s) := by
  obtain ⟨hn, hs, hl⟩ := h
  have k3 := hs.1
  refine ⟨hn, ⟨hs.1, hs.2.1, by rw [fire_length]; exact hs.2.2.1, by rw [fire_length]; exact hs.2.2.2.1, fun i hi => ?_⟩, by rw [fire_length]; exact hl⟩
  rw [fire_length] at hi
  rw [G_fire hi]
  have := hs.2.2.2.2 i hi
  split
  · exact ⟨Int.emod_nonneg _ (by omega), Int.emod_lt_of_pos _ (by omega)⟩
  · split <;> omega
def fireN (net : List Int) (kinds : Int) (s : List Int) : Nat → List Int
  | 0 => s
  | t + 1 => fire net kinds (fireN net kinds s t)
theorem fireN_ok {net : List Int} {kinds : Int} {s : List Int} (h : Asked net kinds s) : ∀ t, Asked net kinds (fireN net kinds s t)
  | 0 => h
  | t + 1 => fire_ok (fireN_ok h t)
theorem fireN_length (net : List Int) (kinds : Int) (s : List Int) : ∀ t, (fireN net kinds s t).length = s.length
  | 0 => rfl
  | t + 1 => by rw [fireN, fire_length, fireN_length net kinds s t]
theorem fireN_orbit (net : List Int) (kinds : Int) (s : List Int) : Orbit (fire net kinds) (fireN net kinds s) := fun _ => rfl
theorem turnN_orbit (net s : List Int) : Orbit (turn net) (turnN net s) := fun _ => rfl
def fireStep (net : List Int) (kinds : Int) (s : List Int) : List Int := if Asked net kinds s then fire net kinds s else []
theorem fireStep_yes {net s : List Int} {k : Int} (h : Asked net k s) : fireStep net k s = fire net k s := if_pos h
theorem fireStep_no {net s : List Int} {k : Int} (h : ¬ Asked net k s) : fireStep net k s = [] := if_neg h
theorem fireStep_length {net s : List Int} {k : Int} : (fireStep net k s).length ≤ 6 := by
  unfold fireStep
  split
  · rename_i h; rw [fire_length]; exact asked6 h
  · decide

/-! rest -/
def AtRest (s : List Int) : Prop := ∀ i, i < s.length → G s i = 0
instance (s : List Int) : Decidable (AtRest s) := by unfold AtRest; infer_instance
theorem rest_fire {net s : List Int} {k : Int} (h : AtRest s) : fire net k s = s := by
  refine ext (fire_length _ _ _) (fun i hi => ?_)
  rw [fire_length] at hi
  rw [G_fire hi, if_neg (by rw [h i hi]; omega), if_neg, h i hi]
  rintro ⟨j, hj, _, e⟩
  rw [h j hj] at e
  cases e
theorem rest_of_fire {net s : List Int} {k : Int} (hA : Asked net k s) (e : fire net k s = s) : AtRest s := by
  intro i hi
  have hb := hA.2.1.2.2.2.2 i hi
  have hk := hA.2.1.1
  have h1 := G_fire (net := net) (kinds := k) hi
  rw [e] at h1
  by_cases g : 0 < G s i
  · rw [if_pos g] at h1
    by_cases x : G s i + 1 = k
    · rw [x, Int.emod_self] at h1; omega
    · rw [Int.emod_eq_of_lt (by omega) (by omega)] at h1; omega
  · omega
theorem rest_later {net s : List Int} {k : Int} {t : Nat} (h : AtRest (fireN net k s t)) : ∀ q, fireN net k s (t + q) = fireN net k s t
  | 0 => rfl
  | q + 1 => by rw [← Nat.add_assoc, fireN, rest_later h q, rest_fire h]
/-- t is the first step at which all are at rest. -/
def EndsP (net : List Int) (k : Int) (s : List Int) (t : Nat) : Prop := AtRest (fireN net k s t) ∧ ∀ u, u < t → ¬ AtRest (fireN net k s u)
theorem ends_unique {net s : List Int} {k : Int} {t u : Nat} (h : EndsP net k s t) (g : EndsP net k s u) : t = u := by
  rcases Nat.lt_trichotomy t u with x | x | x
  · exact absurd h.1 (g.2 t x)
  · exact x
  · exact absurd g.1 (h.2 u x)
theorem ends_of_rest {net s : List Int} {k : Int} : ∀ t, AtRest (fireN net k s t) → ∃ u, u ≤ t ∧ EndsP net k s u
  | 0, h => ⟨0, Nat.le_refl _, h, fun u hu => by omega⟩
  | t + 1, h => by
    by_cases g : AtRest (fireN net k s t)
    · obtain ⟨u, hu, h1⟩ := ends_of_rest t g
      exact ⟨u, by omega, h1⟩
    · refine ⟨t + 1, Nat.le_refl _, h, fun u hu hr => g ?_⟩
      have := rest_later hr (t - u)
      rw [show u + (t - u) = t from by omega] at this
      rw [this]; exact hr
open Classical in
noncomputable def endsAt (net : List Int) (k : Int) (s : List Int) : Int := if h : Asked net k s ∧ ∃ t, EndsP net k s t then (Classical.choose h.2 : Nat) else -1
theorem endsAt_eq {net s : List Int} {k : Int} {t : Nat} (hA : Asked net k s) (h : EndsP net k s t) : endsAt net k s = t := by
  have hex : Asked net k s ∧ ∃ t, EndsP net k s t := ⟨hA, t, h⟩
  unfold endsAt
  rw [dif_pos hex, ends_unique (Classical.choose_spec hex.2) h]
theorem endsAt_no {net s : List Int} {k : Int} (h : ¬ (Asked net k s ∧ ∃ t, EndsP net k s t)) : endsAt net k s = -1 := by
  unfold endsAt; rw [dif_neg h]
theorem endsAt_cases (net : List Int) (k : Int) (s : List Int) : (∃ t, Asked net k s ∧ EndsP net k s t ∧ endsAt net k s = (t : Int)) ∨ ((¬ (Asked net k s ∧ ∃ t, EndsP net k s t)) ∧ endsAt net k s = -1) := by
  by_cases h : Asked net k s ∧ ∃ t, EndsP net k s t
  · obtain ⟨hA, t, ht⟩ := h
    exact Or.inl ⟨t, hA, ht, endsAt_eq hA ht⟩
  · exact Or.inr ⟨h, endsAt_no h⟩
/-- Places of an orbit that goes into a round without rest never are at rest. -/
theorem no_rest {net s : List Int} {k : Int} {b L : Nat} (h : IsLoop (fireN net k s) b L) (hr : ∀ i, i < b + L → ¬ AtRest (fireN net k s i)) : ¬ ∃ t, EndsP net k s t := by
  rintro ⟨t, ht⟩
  by_cases e : t < b + L
  · exact hr t e ht.1
  · have h1 := isLoop_mod (fireN_orbit net k s) h (i := t) (by omega)
    have h2 := Nat.mod_lt (t - b) (show 0 < L by have := h.1; omega)
    exact hr (b + (t - b) % L) (by omega) (by rw [← h1]; exact ht.1)
theorem ends_loop {net s : List Int} {k : Int} {t : Nat} (ht : EndsP net k s t) : IsLoop (fireN net k s) t 1 := by
  refine ⟨Nat.le_refl _, rest_later ht.1 1, fun i j hij hj e => ?_⟩
  have h2 := orbit_shift (fireN_orbit net k s) e (t - j)
  have h3 : fireN net k s (i + (t - j)) = fireN net k s t := by rw [h2, show j + (t - j) = t from by omega]
  have h4 : AtRest (fireN net k s (i + (t - j))) := by rw [h3]; exact ht.1
  exact ht.2 _ (by omega) h4
/-- A round of one state is rest. -/
theorem loop_rest {net s : List Int} {k : Int} (hA : Asked net k s) {b L : Nat} (h : IsLoop (fireN net k s) b L) : (∃ t, EndsP net k s t) ↔ L = 1 ∧ AtRest (fireN net k s b) := by
  constructor
  · rintro ⟨t, ht⟩
    have h1 := rest_later ht.1 1
    have hb : IsLoop (fireN net k s) t 1 := by
      refine ⟨Nat.le_refl _, h1, fun i j hij hj e => ?_⟩
      have h2 := orbit_shift (fireN_orbit net k s) e (t - j)
      have h3 : fireN net k s (i + (t - j)) = fireN net k s t := by rw [h2, show j + (t - j) = t from by omega]
      have h4 : AtRest (fireN net k s (i + (t - j))) := by rw [h3]; exact ht.1
      exact ht.2 _ (by omega) h4
    obtain ⟨rfl, rfl⟩ := isLoop_unique h hb
    exact ⟨rfl, ht.1⟩
  · rintro ⟨_, hr⟩
    obtain ⟨u, _, hu⟩ := ends_of_rest b hr
    exact ⟨u, hu⟩
theorem loop_ends {net s : List Int} {k : Int} {b L : Nat} (h : IsLoop (fireN net k s) b L) (hr : AtRest (fireN net k s b)) : EndsP net k s b := by
  refine ⟨hr, fun u hu hur => ?_⟩
  have h1 := rest_later hur (b - u)
  rw [show u + (b - u) = b from by omega] at h1
  exact h.2.2 u b hu (by have := h.1; omega) h1.symm

/-! numbers seen, the last one first -/
def seenOf (num : Nat → Int) : Nat → List Int
  | 0 => []
  | n + 1 => num n :: seenOf num n
theorem seenOf_length (num : Nat → Int) : ∀ n, (seenOf num n).length = n
  | 0 => rfl
  | n + 1 => by simp only [seenOf, List.length_cons, seenOf_length num n]
/-! waves -/
def lit (n : Nat) (set : Int) : List Int := mk n (fun i => set / 2 ^ i % 2)
theorem lit_length (n : Nat) (set : Int) : (lit n set).length = n := mk_length _ _
theorem G_lit {n : Nat} {set : Int} {i : Nat} (h : i < n) : G (lit n set) i = set / 2 ^ i % 2 := G_mk _ h
theorem lit_one {n : Nat} {set : Int} {i : Nat} (h : i < n) : G (lit n set) i = if bitOf set i then 1 else 0 := by
  rw [G_lit h]
  by_cases e : bitOf set i
  · rw [if_pos e]; exact e
  · rw [if_neg e]
    have e2 : ¬ set / 2 ^ i % 2 = 1 := e
    omega
theorem lit_asked {net : List Int} {k set : Int} (hn : NetP net) (h3 : 3 ≤ k) (h5 : k ≤ 5) : Asked net k (lit net.length set) := by
  refine ⟨hn, ⟨h3, h5, by rw [lit_length]; exact hn.1, by rw [lit_length]; exact hn.2.1, fun i hi => ?_⟩, (lit_length _ _).symm⟩
  rw [lit_length] at hi
  rw [lit_one hi]
  split <;> omega
/-- The kind of a node that the wave comes to at step d, at step t. -/
def waveKind (k : Int) (d t : Nat) : Int := if t < d then 0 else if ((t - d : Nat) : Int) + 1 < k then ((t - d : Nat) : Int) + 1 else 0
theorem wave_at {net : List Int} {k set : Int} (hn : NetP net) (h3 : 3 ≤ k) (h5 : k ≤ 5) : ∀ t i, i < net.length →
    ((∀ d, Dist net net.length (bitOf set) i d → G (fireN net k (lit net.length set) t) i = waveKind k d t) ∧
     ((¬ ∃ d, Dist net net.length (bitOf set) i d) → G (fireN net k (lit net.length set) t) i = 0)) := by
  intro t
  induction t with
  | zero =>
    intro i hi
    constructor
    · intro d hd
      rw [fireN, lit_one hi]
      by_cases e : d = 0
      · subst e
        rw [if_pos (dist_zero.1 hd)]
        unfold waveKind
        rw [if_neg (by omega), if_pos (by omega)]
        rfl
      · rw [if_neg (show ¬ bitOf set i from fun hb => hd.2 0 (by omega) hb)]
        unfold waveKind
        rw [if_pos (by omega)]
    · intro h
      rw [fireN, lit_one hi, if_neg (show ¬ bitOf set i from fun hb => h ⟨0, dist_zero.2 hb⟩)]
  | succ t ih =>
    intro i hi
    have hlen : (fireN net k (lit net.length set) t).length = net.length := by rw [fireN_length, lit_length]
    have hone : ∀ j, j < net.length → (G (fireN net k (lit net.length set) t) j = 1 ↔ Dist net net.length (bitOf set) j t) := by
      intro j hj
      constructor
      · intro e
        apply Classical.byContradiction
        intro hno
        by_cases hx : ∃ d, Dist net net.length (bitOf set) j d
        · obtain ⟨d, hd⟩ := hx
          have h1 := (ih j hj).1 d hd
          rw [e] at h1
          unfold waveKind at h1
          by_cases g : t < d
          · rw [if_pos g] at h1; cases h1
          · rw [if_neg g] at h1
            have hne : d ≠ t := by rintro rfl; exact hno hd
            split at h1 <;> omega
        · rw [(ih j hj).2 hx] at e; cases e
      · intro hd
        rw [(ih j hj).1 t hd]
        unfold waveKind
        rw [if_neg (by omega), if_pos (by omega)]
        omega
    have hfires : Fires net (fireN net k (lit net.length set) t) i ↔ ∃ j, j < net.length ∧ Dist net net.length (bitOf set) j t ∧ adj net j i := by
      unfold Fires
      rw [hlen]
      constructor
      · rintro ⟨j, hj, ha, e⟩; exact ⟨j, hj, (hone j hj).1 e, (adj_sym hn hi hj).1 ha⟩
      · rintro ⟨j, hj, hd, ha⟩; exact ⟨j, hj, (adj_sym hn hj hi).1 ha, (hone j hj).2 hd⟩
    constructor
    · intro d hd
      have h1 := (ih i hi).1 d hd
      rw [fireN, G_fire (by omega), h1]
      by_cases g : t < d
      · have e0 : waveKind k d t = 0 := by unfold waveKind; rw [if_pos g]
        rw [e0, if_neg (by omega)]
        by_cases e : d = t + 1
        · subst e
          obtain ⟨j, hj, hdj, ha⟩ := dist_pred hd
          rw [if_pos (hfires.2 ⟨j, hj, hdj, ha⟩)]
          unfold waveKind
          rw [if_neg (by omega), if_pos (by omega)]
          omega
        · rw [if_neg]
          · unfold waveKind; rw [if_pos (by omega)]
          · intro hf
            obtain ⟨j, hj, hdj, ha⟩ := hfires.1 hf
            obtain ⟨e', he', hd'⟩ := dist_next hj hdj ha
            have := dist_unique hd hd'
            omega
      · by_cases g2 : ((t - d : Nat) : Int) + 1 < k
        · have e0 : waveKind k d t = ((t - d : Nat) : Int) + 1 := by unfold waveKind; rw [if_neg g, if_pos g2]
          rw [e0, if_pos (by omega)]
          by_cases g3 : ((t - d : Nat) : Int) + 1 + 1 = k
          · rw [g3, Int.emod_self]
            unfold waveKind
            rw [if_neg (by omega), if_neg (by omega)]
          · rw [Int.emod_eq_of_lt (by omega) (by omega)]
            unfold waveKind
            rw [if_neg (by omega), if_pos (by omega)]
            omega
        · have e0 : waveKind k d t = 0 := by unfold waveKind; rw [if_neg g, if_neg g2]
          rw [e0, if_neg (by omega), if_neg]
          · unfold waveKind; rw [if_neg (by omega), if_neg (by omega)]
          · intro hf
            obtain ⟨j, hj, hdj, ha⟩ := hfires.1 hf
            obtain ⟨e', he', hd'⟩ := dist_next hi hd ((adj_sym hn hj hi).1 ha)
            have := dist_unique hdj hd'
            omega
    · intro hno
      rw [fireN, G_fire (by omega), (ih i hi).2 hno, if_neg (by omega), if_neg]
      intro hf
      obtain ⟨j, hj, hdj, ha⟩ := hfires.1 hf
      obtain ⟨e', he', hd'⟩ := dist_next hj hdj ha
      exact hno ⟨e', hd'⟩
/-- A node fires just at the step that the wave comes at. -/
theorem wave_one {net : List Int} {k set : Int} (hn : NetP net) (h3 : 3 ≤ k) (h5 : k ≤ 5) {t i : Nat} (hi : i < net.length) : G (fireN net k (lit net.length set) t) i = 1 ↔ distOf net net.length (bitOf set) i = (t : Int) := by
  have hw := wave_at (set := set) hn h3 h5 t i hi
  rcases distOf_cases net net.length (bitOf set) i with ⟨d, hd, e⟩ | ⟨hno, e⟩
  · rw [e, hw.1 d hd]
    unfold waveKind
    split
    · constructor
      · intro h; cases h
      · intro h; omega
    · split <;> constructor <;> intro h <;> omega
  · rw [e, hw.2 hno]
    constructor
    · intro h; cases h
    · intro h; omega
/-! firing with three kinds: each node goes on by 0 or 1, and the climbs go with it -/
def fwent (net s : List Int) (i : Nat) : Int := if 0 < G s i then 1 else if Fires net s i then 1 else 0
theorem rise_fire {net s : List Int} (h : Asked net 3 s) {i j : Nat} (hi : i < s.length) (hj : j < s.length) (ha : adj net i j) :
    rise (G (fire net 3 s) i) (G (fire net 3 s) j) = rise (G s i) (G s j) + fwent net s j - fwent net s i := by
  have bi := h.2.1.2.2.2.2 i hi
  have bj := h.2.1.2.2.2.2 j hj
  have g1 : G s j = 1 → Fires net s i := fun e => ⟨j, hj, ha, e⟩
  have g2 : G s i = 1 → Fires net s j := fun e => ⟨i, hi, (adj_sym h.1 (by rw [h.2.2]; exact hi) (by rw [h.2.2]; exact hj)).1 ha, e⟩
  rw [G_fire hi, G_fire hj]
  unfold fwent rise
  by_cases p1 : 0 < G s i <;> by_cases p2 : 0 < G s j
  · simp only [p1, p2, if_true]; omega
  · simp only [p1, p2, if_true, if_false]
    by_cases e2 : Fires net s j
    · simp only [e2, if_true]; omega
    · simp only [e2, if_false]
      have n2 : ¬ G s i = 1 := fun e => e2 (g2 e)
      omega
  · simp only [p1, p2, if_true, if_false]
    by_cases e1 : Fires net s i
    · simp only [e1, if_true]; omega
    · simp only [e1, if_false]
      have n1 : ¬ G s j = 1 := fun e => e1 (g1 e)
      omega
  · simp only [p1, p2, if_false]
    by_cases e1 : Fires net s i <;> by_cases e2 : Fires net s j <;> simp only [e1, e2, if_true, if_false] <;> omega
theorem flat_fire {net s : List Int} (h : Asked net 3 s) : Flat net (fire net 3 s) ↔ Flat net s :=
  flat_step (d := fwent net s) (fire_length _ _ _) (fun i j hi hj ha => rise_fire h hi hj ha)
theorem flat_fireN {net s : List Int} (h : Asked net 3 s) : ∀ t, Flat net (fireN net 3 s t) ↔ Flat net s
  | 0 => Iff.rfl
  | t + 1 => by rw [fireN, flat_fire (fireN_ok h t), flat_fireN h t]
theorem flat_turnN {net s : List Int} (h : Asked net 3 s) : ∀ t, Flat net (turnN net s t) ↔ Flat net s
  | 0 => Iff.rfl
  | t + 1 => by rw [turnN, flat_turn (turnN_ok h t), flat_turnN h t]
theorem flat_rest {net s : List Int} (h : AtRest s) : Flat net s := ⟨fun _ => 0, fun i j hi hj ha => by rw [h i hi, h j hj]; rfl⟩
end Go.Proofs.Ytgkjapgfldnjkaa.C
