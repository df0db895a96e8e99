/- Steps from a set of nodes: which nodes are come to within so many steps, and the least number of steps. -/
import Derived.Test.YtgkjapgfldnjkaaLoop
set_option linter.unusedSimpArgs false
set_option linter.unusedVariables false
namespace Go.Proofs.Ytgkjapgfldnjkaa.C

/-- i is come to within t steps from S, among the first n nodes. -/
def Rch (net : List Int) (n : Nat) (S : Nat → Prop) : Nat → Nat → Prop
  | 0, i => S i
  | t + 1, i => Rch net n S t i ∨ ∃ j, j < n ∧ Rch net n S t j ∧ adj net j i
theorem rch_mono {net : List Int} {n : Nat} {S : Nat → Prop} {t i : Nat} (h : Rch net n S t i) : ∀ q, Rch net n S (t + q) i
  | 0 => h
  | q + 1 => Or.inl (rch_mono h q)
theorem rch_le {net : List Int} {n : Nat} {S : Nat → Prop} {t u i : Nat} (h : Rch net n S t i) (hl : t ≤ u) : Rch net n S u i := by
  have := rch_mono h (u - t); rwa [show t + (u - t) = u from by omega] at this
/-- d is the least number of steps to i. -/
def Dist (net : List Int) (n : Nat) (S : Nat → Prop) (i d : Nat) : Prop := Rch net n S d i ∧ ∀ t, t < d → ¬ Rch net n S t i
theorem dist_unique {net : List Int} {n : Nat} {S : Nat → Prop} {i d e : Nat} (h : Dist net n S i d) (g : Dist net n S i e) : d = e := by
  rcases Nat.lt_trichotomy d e with x | x | x
  · exact absurd h.1 (g.2 d x)
  · exact x
  · exact absurd g.1 (h.2 e x)
theorem dist_zero {net : List Int} {n : Nat} {S : Nat → Prop} {i : Nat} : Dist net n S i 0 ↔ S i := ⟨fun h => h.1, fun h => ⟨h, fun t ht => by omega⟩⟩
theorem dist_of_rch {net : List Int} {n : Nat} {S : Nat → Prop} {i : Nat} : ∀ t, Rch net n S t i → ∃ d, d ≤ t ∧ Dist net n S i d
  | 0, h => ⟨0, Nat.le_refl _, dist_zero.2 h⟩
  | t + 1, h => by
    by_cases g : Rch net n S t i
    · obtain ⟨d, hd, h1⟩ := dist_of_rch t g
      exact ⟨d, by omega, h1⟩
    · exact ⟨t + 1, Nat.le_refl _, h, fun u hu hr => g (rch_le hr (by omega))⟩
theorem dist_pred {net : List Int} {n : Nat} {S : Nat → Prop} {i d : Nat} (h : Dist net n S i (d + 1)) : ∃ j, j < n ∧ Dist net n S j d ∧ adj net j i := by
  rcases h.1 with g | ⟨j, hj, hr, ha⟩
  · exact absurd g (h.2 d (by omega))
  · obtain ⟨e, he, hd⟩ := dist_of_rch d hr
    refine ⟨j, hj, ?_, ha⟩
    by_cases x : e = d
    · rw [← x]; exact hd
    · exact absurd (show Rch net n S (e + 1) i from Or.inr ⟨j, hj, hd.1, ha⟩) (h.2 (e + 1) (by omega))
theorem dist_next {net : List Int} {n : Nat} {S : Nat → Prop} {i j d : Nat} (hj : j < n) (h : Dist net n S j d) (ha : adj net j i) : ∃ e, e ≤ d + 1 ∧ Dist net n S i e :=
  dist_of_rch (d + 1) (Or.inr ⟨j, hj, h.1, ha⟩)
/-- On the way to i stands a node at each lesser number of steps. -/
theorem dist_way {net : List Int} {n : Nat} {S : Nat → Prop} : ∀ {d i : Nat}, i < n → Dist net n S i d → ∀ t, t ≤ d → ∃ j, j < n ∧ Dist net n S j t
  | 0, i, hi, h, t, ht => ⟨i, hi, by rw [show t = 0 from by omega]; exact h⟩
  | d + 1, i, hi, h, t, ht => by
    by_cases e : t = d + 1
    · subst e; exact ⟨i, hi, h⟩
    · obtain ⟨j, hj, hd, _⟩ := dist_pred h
      exact dist_way hj hd t (by omega)
theorem dist_lt {net : List Int} {n : Nat} {S : Nat → Prop} {d i : Nat} (hi : i < n) (h : Dist net n S i d) : d < n := by
  have hw := dist_way hi h
  have hex : ∀ t, ∃ j, t ≤ d → j < n ∧ Dist net n S j t := fun t => by
    by_cases e : t ≤ d
    · obtain ⟨j, h1, h2⟩ := hw t e
      exact ⟨j, fun _ => ⟨h1, h2⟩⟩
    · exact ⟨0, fun x => absurd x e⟩
  have := pigeon n (d + 1) (fun t => Classical.choose (hex t)) (fun t ht => (Classical.choose_spec (hex t) (by omega)).1) (fun a b hab hb e => by
    have h1 := (Classical.choose_spec (hex a) (by omega)).2
    have h2 := (Classical.choose_spec (hex b) (by omega)).2
    try simp only at e
    rw [e] at h1
    have := dist_unique h1 h2
    omega)
  omega
theorem rch_bound {net : List Int} {n : Nat} {S : Nat → Prop} {t i : Nat} (hi : i < n) (h : Rch net n S t i) : Rch net n S (n - 1) i := by
  obtain ⟨d, _, hd⟩ := dist_of_rch t h
  have := dist_lt hi hd
  exact rch_le hd.1 (by omega)
theorem rch_congr {net : List Int} {n : Nat} {S T : Nat → Prop} (h : ∀ i, S i ↔ T i) : ∀ t i, Rch net n S t i ↔ Rch net n T t i
  | 0, i => h i
  | t + 1, i => by
    simp only [Rch]
    rw [rch_congr h t i]
    constructor
    · rintro (g | ⟨j, hj, hr, ha⟩)
      · exact Or.inl g
      · exact Or.inr ⟨j, hj, (rch_congr h t j).1 hr, ha⟩
    · rintro (g | ⟨j, hj, hr, ha⟩)
      · exact Or.inl g
      · exact Or.inr ⟨j, hj, (rch_congr h t j).2 hr, ha⟩
theorem rch_or {net : List Int} {n : Nat} {S T : Nat → Prop} : ∀ t i, Rch net n (fun i => S i ∨ T i) t i ↔ Rch net n S t i ∨ Rch net n T t i
  | 0, i => Iff.rfl
  | t + 1, i => by
    simp only [Rch]
    rw [rch_or t i]
    constructor
    · rintro ((g | g) | ⟨j, hj, hr, ha⟩)
      · exact Or.inl (Or.inl g)
      · exact Or.inr (Or.inl g)
      · rcases (rch_or t j).1 hr with g | g
        · exact Or.inl (Or.inr ⟨j, hj, g, ha⟩)
        · exact Or.inr (Or.inr ⟨j, hj, g, ha⟩)
    · rintro ((g | ⟨j, hj, hr, ha⟩) | (g | ⟨j, hj, hr, ha⟩))
      · exact Or.inl (Or.inl g)
      · exact Or.inr ⟨j, hj, (rch_or t j).2 (Or.inl hr), ha⟩
      · exact Or.inl (Or.inr g)
      · exact Or.inr ⟨j, hj, (rch_or t j).2 (Or.inr hr), ha⟩
/-- One step out it is one step sooner. -/
theorem rch_grow {net : List Int} {n : Nat} {S T : Nat → Prop} (h : ∀ i, (S i ∨ ∃ j, j < n ∧ S j ∧ adj net j i) → T i) : ∀ t i, Rch net n S (t + 1) i → Rch net n T t i
  | 0, i, hr => h i hr
  | t + 1, i, hr => by
    rcases hr with g | ⟨j, hj, hr, ha⟩
    · exact Or.inl (rch_grow h t i g)
    · exact Or.inr ⟨j, hj, rch_grow h t j hr, ha⟩

open Classical in
/-- The least number of steps; -1 for none. -/
noncomputable def distOf (net : List Int) (n : Nat) (S : Nat → Prop) (i : Nat) : Int := if h : ∃ d, Dist net n S i d then (Classical.choose h : Nat) else -1
theorem distOf_eq {net : List Int} {n : Nat} {S : Nat → Prop} {i d : Nat} (h : Dist net n S i d) : distOf net n S i = d := by
  have hex : ∃ d, Dist net n S i d := ⟨d, h⟩
  unfold distOf
  rw [dif_pos hex, dist_unique (Classical.choose_spec hex) h]
theorem distOf_no {net : List Int} {n : Nat} {S : Nat → Prop} {i : Nat} (h : ¬ ∃ d, Dist net n S i d) : distOf net n S i = -1 := by
  unfold distOf; rw [dif_neg h]
theorem distOf_cases (net : List Int) (n : Nat) (S : Nat → Prop) (i : Nat) : (∃ d, Dist net n S i d ∧ distOf net n S i = (d : Int)) ∨ ((¬ ∃ d, Dist net n S i d) ∧ distOf net n S i = -1) := by
  by_cases h : ∃ d, Dist net n S i d
  · obtain ⟨d, hd⟩ := h
    exact Or.inl ⟨d, hd, distOf_eq hd⟩
  · exact Or.inr ⟨h, distOf_no h⟩
theorem distOf_bd {net : List Int} {n : Nat} {S : Nat → Prop} {i : Nat} (hi : i < n) : -1 ≤ distOf net n S i ∧ distOf net n S i < n := by
  rcases distOf_cases net n S i with ⟨d, hd, e⟩ | ⟨_, e⟩
  · have := dist_lt hi hd; omega
  · omega
theorem distOf_le {net : List Int} {n : Nat} {S : Nat → Prop} {i : Nat} (t : Nat) : (0 ≤ distOf net n S i ∧ distOf net n S i ≤ t) ↔ Rch net n S t i := by
  rcases distOf_cases net n S i with ⟨d, hd, e⟩ | ⟨hno, e⟩
  · rw [e]
    constructor
    · rintro ⟨_, h⟩; exact rch_le hd.1 (by omega)
    · intro h
      refine ⟨by omega, ?_⟩
      apply Classical.byContradiction
      intro hlt
      exact hd.2 t (by omega) h
  · rw [e]
    constructor
    · rintro ⟨h, _⟩; omega
    · intro h
      obtain ⟨d, _, hd⟩ := dist_of_rch t h
      exact absurd ⟨d, hd⟩ hno
theorem distOf_or (net : List Int) (n : Nat) (S T : Nat → Prop) (i : Nat) : distOf net n (fun i => S i ∨ T i) i =
    (if distOf net n S i < 0 then distOf net n T i else if distOf net n T i < 0 then distOf net n S i else if distOf net n S i < distOf net n T i then distOf net n S i else distOf net n T i) := by
  rcases distOf_cases net n S i with ⟨d, hd, e⟩ | ⟨hno, e⟩ <;> rcases distOf_cases net n T i with ⟨d', hd', e'⟩ | ⟨hno', e'⟩
  · rw [e, e', if_neg (by omega), if_neg (by omega)]
    by_cases g : (d : Int) < d'
    · rw [if_pos g]
      exact distOf_eq ⟨(rch_or d i).2 (Or.inl hd.1), fun t ht hr => by
        rcases (rch_or t i).1 hr with x | x
        · exact hd.2 t ht x
        · exact hd'.2 t (by omega) x⟩
    · rw [if_neg g]
      exact distOf_eq ⟨(rch_or d' i).2 (Or.inr hd'.1), fun t ht hr => by
        rcases (rch_or t i).1 hr with x | x
        · exact hd.2 t (by omega) x
        · exact hd'.2 t ht x⟩
  · rw [e, e', if_neg (by omega), if_pos (by omega)]
    exact distOf_eq ⟨(rch_or d i).2 (Or.inl hd.1), fun t ht hr => by
      rcases (rch_or t i).1 hr with x | x
      · exact hd.2 t ht x
      · obtain ⟨u, _, hu⟩ := dist_of_rch t x
        exact hno' ⟨u, hu⟩⟩
  · rw [e, e', if_pos (by omega)]
    exact distOf_eq ⟨(rch_or d' i).2 (Or.inr hd'.1), fun t ht hr => by
      rcases (rch_or t i).1 hr with x | x
      · obtain ⟨u, _, hu⟩ := dist_of_rch t x
        exact hno ⟨u, hu⟩
      · exact hd'.2 t ht x⟩
  · rw [e, e', if_pos (by omega)]
    refine distOf_no ?_
    rintro ⟨d, hd⟩
    rcases (rch_or d i).1 hd.1 with x | x
    · obtain ⟨u, _, hu⟩ := dist_of_rch d x
      exact hno ⟨u, hu⟩
    · obtain ⟨u, _, hu⟩ := dist_of_rch d x
      exact hno' ⟨u, hu⟩
theorem dist_congr {net : List Int} {n : Nat} {S T : Nat → Prop} (h : ∀ i, S i ↔ T i) {i d : Nat} : Dist net n S i d ↔ Dist net n T i d := by
  unfold Dist
  rw [rch_congr h]
  constructor
  · rintro ⟨a, b⟩; exact ⟨a, fun t ht hr => b t ht ((rch_congr h t i).2 hr)⟩
  · rintro ⟨a, b⟩; exact ⟨a, fun t ht hr => b t ht ((rch_congr h t i).1 hr)⟩
theorem distOf_congr {net : List Int} {n : Nat} {S T : Nat → Prop} (h : ∀ i, S i ↔ T i) (i : Nat) : distOf net n S i = distOf net n T i := by
  rcases distOf_cases net n T i with ⟨d, hd, e⟩ | ⟨hno, e⟩
  · rw [e]; exact distOf_eq ((dist_congr h).2 hd)
  · rw [e]; exact distOf_no (fun ⟨d, hd⟩ => hno ⟨d, (dist_congr h).1 hd⟩)

/-- The steps told so far: those below n. -/
def soFar (v : Int) (n : Int) : Int := if 0 ≤ v ∧ v < n then v else -1

/-! sets told by numbers -/
def bitOf (x : Int) (i : Nat) : Prop := x / 2 ^ i % 2 = 1
instance (x : Int) (i : Nat) : Decidable (bitOf x i) := by unfold bitOf; infer_instance
def SetP (net : List Int) (set : Int) : Prop := NetP net ∧ 0 ≤ set ∧ set < 2 ^ net.length
instance (net : List Int) (set : Int) : Decidable (SetP net set) := by unfold SetP; infer_instance
noncomputable def distRow (net : List Int) (set : Int) : List Int := mk net.length (distOf net net.length (bitOf set))
theorem distRow_length (net : List Int) (set : Int) : (distRow net set).length = net.length := mk_length _ _
theorem G_distRow {net : List Int} {set : Int} {i : Nat} (h : i < net.length) : G (distRow net set) i = distOf net net.length (bitOf set) i := G_mk _ h
noncomputable def distancesFrom (net : List Int) (set : Int) : List Int := if SetP net set then distRow net set else []
theorem distancesFrom_yes {net : List Int} {set : Int} (h : SetP net set) : distancesFrom net set = distRow net set := if_pos h
theorem distancesFrom_no {net : List Int} {set : Int} (h : ¬ SetP net set) : distancesFrom net set = [] := if_neg h
theorem distancesFrom_length {net : List Int} {set : Int} : (distancesFrom net set).length ≤ 6 := by
  unfold distancesFrom
  split
  · rename_i h; rw [distRow_length]; exact h.1.2.1
  · decide
theorem bit_zero {w : Int} (h0 : 0 ≤ w) (h : w < 64) (hb : ∀ k : Nat, ¬ bitOf w k) : w = 0 := by
  have b0 := hb 0
  have b1 := hb 1
  have b2 := hb 2
  have b3 := hb 3
  have b4 := hb 4
  have b5 := hb 5
  unfold bitOf at b0 b1 b2 b3 b4 b5
  simp only [Int.reducePow, Nat.reducePow] at b0 b1 b2 b3 b4 b5
  omega
theorem bit_lt {x : Int} {n k : Nat} (h0 : 0 ≤ x) (h : x < 2 ^ n) (hb : bitOf x k) : k < n := by
  apply Classical.byContradiction
  intro hge
  have hp : (2 : Int) ^ n ≤ 2 ^ k := by
    have : (2 : Nat) ^ n ≤ 2 ^ k := Nat.pow_le_pow_right (by decide) (by omega)
    have e1 : ((2 : Int) ^ n) = ((2 ^ n : Nat) : Int) := by simp
    have e2 : ((2 : Int) ^ k) = ((2 ^ k : Nat) : Int) := by simp
    omega
  unfold bitOf at hb
  rw [Int.ediv_eq_zero_of_lt h0 (by omega)] at hb
  simp at hb
theorem adj_lt {net : List Int} (h : NetP net) {j k : Nat} (hj : j < net.length) (ha : adj net j k) : k < net.length :=
  bit_lt (h.2.2 j hj).1 (h.2.2 j hj).2.1 ha
theorem bit_pow {i k : Nat} (hi : i < 64) (hk : k < 64) : bitOf ((2 : Int) ^ i) k ↔ k = i := by
  unfold bitOf
  have e1 : ((2 : Int) ^ i) = ((2 ^ i : Nat) : Int) := by simp
  have e2 : ((2 : Int) ^ k) = ((2 ^ k : Nat) : Int) := by simp
  have h1 : (2 ^ i : Nat) / 2 ^ k % 2 = 1 ↔ (2 ^ i : Nat).testBit k = true := by
    rw [Nat.testBit_eq_decide_div_mod_eq, decide_eq_true_eq]
  have h2 : (2 ^ i : Nat).testBit k = true ↔ k = i := by
    rw [Nat.testBit_two_pow, decide_eq_true_eq]
    exact ⟨fun h => h.symm, fun h => h.symm⟩
  rw [e1, e2, ← h2, ← h1]
  have : (((2 ^ i : Nat) : Int) / ((2 ^ k : Nat) : Int) % 2) = ((2 ^ i / 2 ^ k % 2 : Nat) : Int) := by simp
  omega
theorem net_lt64 {net : List Int} (h : NetP net) {j : Nat} (hj : j < net.length) : 0 ≤ G net j ∧ G net j < 64 := by
  have h1 := h.2.2 j hj
  have : (2 : Nat) ^ net.length ≤ 2 ^ 6 := Nat.pow_le_pow_right (by decide) h.2.1
  have e1 : ((2 : Int) ^ net.length) = ((2 ^ net.length : Nat) : Int) := by simp
  omega
theorem set_lt64 {net : List Int} {set : Int} (h : SetP net set) : 0 ≤ set ∧ set < 64 := by
  have : (2 : Nat) ^ net.length ≤ 2 ^ 6 := Nat.pow_le_pow_right (by decide) h.1.2.1
  have e1 : ((2 : Int) ^ net.length) = ((2 ^ net.length : Nat) : Int) := by simp
  have := h.2
  omega
/-- What has been told, one step further. -/
theorem soFar_step {v : Int} {n : Nat} : (v = n → soFar v ((n + 1 : Nat) : Int) = n) ∧ (v ≠ n → soFar v ((n + 1 : Nat) : Int) = soFar v n) := by
  constructor
  · intro e; unfold soFar; rw [if_pos (by omega)]; exact e
  · intro e; unfold soFar
    by_cases g : 0 ≤ v ∧ v < n
    · rw [if_pos g, if_pos (by omega)]
    · rw [if_neg g, if_neg (by omega)]
theorem soFar_end {net : List Int} {n : Nat} {S : Nat → Prop} {i d : Nat} (hi : i < n) (hd : ∀ e, Dist net n S i e → e < d) : soFar (distOf net n S i) d = distOf net n S i := by
  unfold soFar
  rcases distOf_cases net n S i with ⟨e, he, h⟩ | ⟨_, h⟩
  · have := hd e he
    rw [h, if_pos (by omega)]
  · rw [h, if_neg (by omega)]
theorem dist_iff {net : List Int} {n : Nat} {S : Nat → Prop} {i d : Nat} : distOf net n S i = (d : Int) ↔ Dist net n S i d := by
  constructor
  · intro h
    rcases distOf_cases net n S i with ⟨e, he, h2⟩ | ⟨_, h2⟩
    · have : e = d := by omega
      rw [← this]; exact he
    · omega
  · exact distOf_eq
end Go.Proofs.Ytgkjapgfldnjkaa.C
