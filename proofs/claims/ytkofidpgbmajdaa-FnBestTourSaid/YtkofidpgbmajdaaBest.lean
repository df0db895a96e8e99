/- Best tours: what tours of just so many steps climb at most, and the first of the best ones. -/
import Derived.Test.YtkofidpgbmajdaaTurn
import Derived.Test.YtkofidpgbmajdaaTour
set_option linter.unusedSimpArgs false
set_option linter.unusedVariables false
namespace Go.Proofs.Ytkofidpgbmajdaa.C

/-- The most that tours of just n steps from i climb; -1000 where there is none. -/
def jst (net s : List Int) : Nat → Nat → Int
  | 0, _ => 0
  | n + 1, i => maxA net i (fun j => rise (G s i) (G s j) + jst net s n j) (-1000) s.length
theorem jst_le (net s : List Int) : ∀ (n i : Nat), jst net s n i ≤ n
  | 0, i => Int.le_refl _
  | n + 1, i => maxA_le (by omega) (fun j _ _ => by have h1 := rise_le (G s i) (G s j); have h2 := jst_le net s n j; omega)
/-- A node that has a neighbour. -/
def Wired (net s : List Int) (i : Nat) : Prop := ∃ j, j < s.length ∧ adj net i j
instance (net s : List Int) (i : Nat) : Decidable (Wired net s i) := by unfold Wired; infer_instance
theorem wired_adj {net s : List Int} (h : Asked net 3 s) {i j : Nat} (hi : i < s.length) (hj : j < s.length) (ha : adj net i j) : Wired net s j :=
  ⟨i, hi, (adj_sym h.1 (by rw [h.2.2]; exact hi) (by rw [h.2.2]; exact hj)).1 ha⟩
theorem jst_ge {net s : List Int} (h : Asked net 3 s) : ∀ (n i : Nat), i < s.length → Wired net s i → -(n : Int) ≤ jst net s n i
  | 0, i, _, _ => Int.le_refl _
  | n + 1, i, hi, ⟨j, hj, ha⟩ => by
    have h1 := jst_ge h n j hj (wired_adj h hi hj ha)
    have h2 := rise_le (G s i) (G s j)
    have h3 := maxA_ge (v := fun j => rise (G s i) (G s j) + jst net s n j) (init := -1000) hj ha
    simp only [jst]
    try simp only at h3
    omega
theorem jst_alone {net s : List Int} {n i : Nat} (h : ¬ Wired net s i) : jst net s (n + 1) i = -1000 := by
  simp only [jst]
  rcases maxA_or net i (fun j => rise (G s i) (G s j) + jst net s n j) (-1000) s.length with e | ⟨j, hj, ha, _⟩
  · exact e
  · exact absurd ⟨j, hj, ha⟩ h
theorem jst_step {net s : List Int} {n i j : Nat} (hj : j < s.length) (ha : adj net i j) : rise (G s i) (G s j) + jst net s n j ≤ jst net s (n + 1) i :=
  maxA_ge (v := fun j => rise (G s i) (G s j) + jst net s n j) hj ha
theorem jst_or {net s : List Int} (h : Asked net 3 s) {n i : Nat} (hn : n ≤ 100) (hi : i < s.length) (hw : Wired net s i) : ∃ j, j < s.length ∧ adj net i j ∧ rise (G s i) (G s j) + jst net s n j = jst net s (n + 1) i := by
  have h1 := jst_ge h (n + 1) i hi hw
  simp only [jst] at h1 ⊢
  rcases maxA_or net i (fun j => rise (G s i) (G s j) + jst net s n j) (-1000) s.length with e | ⟨j, hj, ha, e⟩
  · omega
  · exact ⟨j, hj, ha, e.symm⟩
/-- With the most of at most t steps, which is how often the node turns. -/
theorem jst_le_most {net s : List Int} (h : Asked net 3 s) : ∀ n i, i < s.length → jst net s n i ≤ turnedN net s n i
  | 0, i, _ => Int.le_refl _
  | n + 1, i, hi => by
    rw [turnedN_max0 h n hi]
    refine maxA_le ?_ (fun j hj ha => ?_)
    · have := maxA_init net i (fun j => rise (G s i) (G s j) + turnedN net s n j) 0 s.length; omega
    · refine Int.le_trans ?_ (maxA_ge (v := fun j => rise (G s i) (G s j) + turnedN net s n j) hj ha)
      have := jst_le_most h n j hj
      show _ ≤ rise (G s i) (G s j) + turnedN net s n j
      omega
theorem turnedN_le {net s : List Int} {a b i : Nat} (h : a ≤ b) : turnedN net s a i ≤ turnedN net s b i := by
  have key : ∀ d, turnedN net s a i ≤ turnedN net s (a + d) i := by
    intro d
    induction d with
    | zero => exact Int.le_refl _
    | succ d ih => exact Int.le_trans ih (turnedN_mono net s (a + d) i)
  have := key (b - a)
  rwa [show a + (b - a) = b from by omega] at this
theorem most_or {net s : List Int} (h : Asked net 3 s) : ∀ t i, i < s.length → ∃ n, n ≤ t ∧ jst net s n i = turnedN net s t i
  | 0, i, _ => ⟨0, Nat.le_refl _, rfl⟩
  | t + 1, i, hi => by
    rcases maxA_or net i (fun j => rise (G s i) (G s j) + turnedN net s t j) (turnedN net s t i) s.length with e | ⟨j, hj, ha, e⟩
    · obtain ⟨n, hn, h1⟩ := most_or h t i hi
      exact ⟨n, by omega, by rw [turnedN_max h hi t, e, h1]⟩
    · obtain ⟨n, hn, h1⟩ := most_or h t j hj
      refine ⟨n + 1, by omega, ?_⟩
      have h2 := jst_step (net := net) (s := s) (n := n) (i := i) hj ha
      have h3 := jst_le_most h (n + 1) i hi
      have h4 := turnedN_le (net := net) (s := s) (i := i) (show n + 1 ≤ t + 1 by omega)
      have h5 := turnedN_max h hi t
      rw [e] at h5
      try simp only at h5
      omega
/-- b is the least number of steps that climbs most within t. -/
def FewP (net s : List Int) (t i b : Nat) : Prop := b ≤ t ∧ jst net s b i = turnedN net s t i ∧ ∀ m, m < b → turnedN net s m i < turnedN net s t i
theorem few_unique {net s : List Int} (h : Asked net 3 s) {t i b c : Nat} (hi : i < s.length) (hb : FewP net s t i b) (hc : FewP net s t i c) : b = c := by
  have key : ∀ b c, FewP net s t i b → FewP net s t i c → ¬ b < c := fun b c hb hc hlt => by
    have h1 := hc.2.2 b hlt
    have h2 := jst_le_most h b i hi
    have h3 := hb.2.1
    omega
  rcases Nat.lt_trichotomy b c with x | x | x
  · exact absurd x (key b c hb hc)
  · exact x
  · exact absurd x (key c b hc hb)
/-- One step more, as the program takes it. -/
theorem few_next {net s : List Int} (h : Asked net 3 s) {t i b : Nat} (hi : i < s.length) (hb : FewP net s t i b) :
    (jst net s b i < jst net s (t + 1) i → FewP net s (t + 1) i (t + 1)) ∧ (¬ jst net s b i < jst net s (t + 1) i → FewP net s (t + 1) i b) := by
  have h1 := jst_le_most h (t + 1) i hi
  have h2 := turnedN_le (net := net) (s := s) (i := i) (show t ≤ t + 1 by omega)
  obtain ⟨n, hn, e⟩ := most_or h (t + 1) i hi
  have h3 : n ≤ t → jst net s n i ≤ turnedN net s t i := fun hn => Int.le_trans (jst_le_most h n i hi) (turnedN_le hn)
  constructor
  · intro hlt
    have e2 : jst net s (t + 1) i = turnedN net s (t + 1) i := by
      by_cases g : n = t + 1
      · rw [← g, e, g]
      · have := h3 (by omega); have := hb.2.1; omega
    refine ⟨Nat.le_refl _, e2, fun m hm => ?_⟩
    have := turnedN_le (net := net) (s := s) (i := i) (show m ≤ t by omega)
    have := hb.2.1
    omega
  · intro hge
    have e2 : turnedN net s (t + 1) i = turnedN net s t i := by
      by_cases g : n = t + 1
      · rw [g] at e; have := hb.2.1; omega
      · have := h3 (by omega); omega
    exact ⟨by have := hb.1; omega, by rw [e2]; exact hb.2.1, fun m hm => by rw [e2]; exact hb.2.2 m hm⟩
theorem few_zero (net s : List Int) (i : Nat) : FewP net s 0 i 0 := ⟨Nat.le_refl _, rfl, fun m hm => by omega⟩
theorem few_exists {net s : List Int} (h : Asked net 3 s) {i : Nat} (hi : i < s.length) : ∀ t, ∃ b, FewP net s t i b
  | 0 => ⟨0, few_zero net s i⟩
  | t + 1 => by
    obtain ⟨b, hb⟩ := few_exists h hi t
    by_cases g : jst net s b i < jst net s (t + 1) i
    · exact ⟨_, (few_next h hi hb).1 g⟩
    · exact ⟨_, (few_next h hi hb).2 g⟩
/-- The least number whose most is the most of all, as the reference seeks it. -/
theorem few_iff {net s : List Int} (h : Asked net 3 s) {t i b m : Nat} (hi : i < s.length) (hb : FewP net s t i b) (hm : m ≤ b) : turnedN net s m i < turnedN net s t i ↔ m < b := by
  constructor
  · intro hlt
    apply Classical.byContradiction
    intro hn
    have e : m = b := by omega
    subst e
    have h1 := jst_le_most h m i hi
    have h2 := hb.2.1
    omega
  · exact hb.2.2 m
/-- Left steps are the fewest that climb so much: so they are from the next node on. -/
theorem few_step {net s : List Int} (h : Asked net 3 s) {l i j : Nat} (hi : i < s.length) (hj : j < s.length) (ha : adj net i j) (hf : FewP net s (l + 1) i (l + 1)) :
    (rise (G s i) (G s j) + jst net s l j = jst net s (l + 1) i ↔ rise (G s i) (G s j) + turnedN net s l j = jst net s (l + 1) i) ∧
    (rise (G s i) (G s j) + jst net s l j = jst net s (l + 1) i → FewP net s l j l) := by
  have h0 := hf.2.1
  have h1 := jst_le_most h l j hj
  have h2 := maxA_ge (v := fun j => rise (G s i) (G s j) + turnedN net s l j) (init := 0) hj ha
  rw [← turnedN_max0 h l hi] at h2
  try simp only at h2
  have key : ∀ m, m < l → rise (G s i) (G s j) + turnedN net s m j < jst net s (l + 1) i := by
    intro m hm
    have h3 := maxA_ge (v := fun j => rise (G s i) (G s j) + turnedN net s m j) (init := 0) hj ha
    rw [← turnedN_max0 h m hi] at h3
    try simp only at h3
    have h4 := hf.2.2 (m + 1) (by omega)
    omega
  obtain ⟨n, hn, e⟩ := most_or h l j hj
  refine ⟨⟨fun g => by omega, fun g => ?_⟩, fun g => ⟨Nat.le_refl _, by omega, fun m hm => ?_⟩⟩
  · by_cases x : n = l
    · rw [x] at e; omega
    · have := key n (by omega)
      have := jst_le_most h n j hj
      omega
  · have := key m hm; omega
/-- The first number below n that a property has; else n. -/
def firstP (p : Nat → Prop) [DecidablePred p] : Nat → Nat → Nat
  | 0, a => a
  | d + 1, a => if p a then a else firstP p d (a + 1)
theorem firstP_spec {p : Nat → Prop} [DecidablePred p] : ∀ d a, (∃ j, a ≤ j ∧ j < a + d ∧ p j) → a ≤ firstP p d a ∧ firstP p d a < a + d ∧ p (firstP p d a)
  | 0, a, h => by obtain ⟨j, h1, h2, _⟩ := h; omega
  | d + 1, a, h => by
    simp only [firstP]
    by_cases e : p a
    · rw [if_pos e]; exact ⟨Nat.le_refl _, by omega, e⟩
    · rw [if_neg e]
      obtain ⟨j, h1, h2, h3⟩ := h
      have hne : j ≠ a := by rintro rfl; exact e h3
      have := firstP_spec d (a + 1) ⟨j, by omega, by omega, h3⟩
      exact ⟨by omega, by omega, this.2.2⟩
/-- The next node of a best tour with l steps left behind it. -/
def nextOf (net s : List Int) (l i : Nat) : Nat := firstP (fun j => adj net i j ∧ rise (G s i) (G s j) + jst net s l j = jst net s (l + 1) i) s.length 0
theorem nextOf_spec {net s : List Int} (h : Asked net 3 s) {l i : Nat} (hl : l ≤ 100) (hi : i < s.length) (hw : Wired net s i) :
    nextOf net s l i < s.length ∧ adj net i (nextOf net s l i) ∧ rise (G s i) (G s (nextOf net s l i)) + jst net s l (nextOf net s l i) = jst net s (l + 1) i := by
  obtain ⟨j, hj, ha, e⟩ := jst_or h hl hi hw
  have := firstP_spec (p := fun j => adj net i j ∧ rise (G s i) (G s j) + jst net s l j = jst net s (l + 1) i) s.length 0 ⟨j, by omega, by omega, ha, e⟩
  exact ⟨by have := this.2.1; unfold nextOf; omega, this.2.2⟩
/-- The nodes behind i of a best tour of l steps. -/
def route (net s : List Int) : Nat → Nat → List Int
  | 0, _ => []
  | l + 1, i => ((nextOf net s l i : Nat) : Int) :: route net s l (nextOf net s l i)
theorem route_length (net s : List Int) : ∀ l i, (route net s l i).length = l
  | 0, _ => rfl
  | l + 1, i => by simp only [route, List.length_cons]; rw [route_length net s l]
theorem climb_cons {s : List Int} (a b : Int) (t : List Int) : climb s (a :: b :: t) = rise (G s a.toNat) (G s b.toNat) + climb s (b :: t) := by
  have h1 := climbTo_shift (s := s) (t := a :: b :: t) (u := b :: t) (m := 1) (n := t.length) (fun i _ => by rw [Nat.add_comm]; rfl)
  unfold climb
  show climbTo s (a :: b :: t) (t.length + 1 + 1 - 1) = _ + climbTo s (b :: t) (t.length + 1 - 1)
  rw [show t.length + 1 + 1 - 1 = 1 + t.length from by omega, show t.length + 1 - 1 = t.length from by omega, h1]
  congr 1
  show sumN _ 1 = _
  simp only [sumN]
  show (0 : Int) + rise (G s a.toNat) (G s b.toNat) = _
  omega
theorem route_tour {net s : List Int} (h : Asked net 3 s) : ∀ l i, l ≤ 11 → i < s.length → (l = 0 ∨ Wired net s i) → TourP net ((i : Int) :: route net s l i) ∧ climb s ((i : Int) :: route net s l i) = jst net s l i := by
  intro l
  induction l with
  | zero =>
    intro i _ hi _
    refine ⟨⟨h.1, by simp [route], by simp [route], fun k hk => ?_, fun k hk => ?_⟩, rfl⟩
    · have e : k = 0 := by simp [route] at hk; omega
      subst e
      show 0 ≤ (i : Int) ∧ (i : Int) < net.length
      have := h.2.2; omega
    · simp [route] at hk
  | succ l ih =>
    intro i hl hi hw
    have hw' : Wired net s i := hw.elim (fun e => by omega) id
    obtain ⟨n1, n2, n3⟩ := nextOf_spec h (l := l) (by omega) hi hw'
    obtain ⟨h1, h2⟩ := ih (nextOf net s l i) (by omega) n1 (Or.inr (wired_adj h hi n1 n2))
    have hlen := h.2.2
    refine ⟨⟨h.1, by simp [route], by simp only [List.length_cons, route_length]; omega, fun k hk => ?_, fun k hk => ?_⟩, ?_⟩
    · cases k with
      | zero => show 0 ≤ (i : Int) ∧ (i : Int) < net.length; omega
      | succ k =>
        rw [G_cons_succ]
        exact h1.2.2.2.1 k (by simpa [route] using hk)
    · cases k with
      | zero => exact n2
      | succ k =>
        rw [G_cons_succ, G_cons_succ]
        exact h1.2.2.2.2 k (by simpa [route] using hk)
    · rw [show route net s (l + 1) i = ((nextOf net s l i : Nat) : Int) :: route net s l (nextOf net s l i) from rfl, climb_cons, h2]
      exact n3
open Classical in
noncomputable def bestTour (net s : List Int) (node steps : Int) : List Int :=
  if h : Asked net 3 s ∧ 0 ≤ steps ∧ steps < 12 ∧ 0 ≤ node ∧ node < net.length ∧ ∃ b, FewP net s steps.toNat node.toNat b then node :: route net s (Classical.choose h.2.2.2.2.2) node.toNat else []
theorem bestTour_eq {net s : List Int} {i t b : Nat} (h : Asked net 3 s) (ht : t < 12) (hi : i < net.length) (hb : FewP net s t i b) : bestTour net s (i : Int) (t : Int) = (i : Int) :: route net s b i := by
  have hx : Asked net 3 s ∧ 0 ≤ (t : Int) ∧ (t : Int) < 12 ∧ 0 ≤ (i : Int) ∧ (i : Int) < net.length ∧ ∃ b, FewP net s (t : Int).toNat (i : Int).toNat b := ⟨h, by omega, by omega, by omega, by omega, b, hb⟩
  unfold bestTour
  rw [dif_pos hx, few_unique h (by rw [← h.2.2]; exact hi) (Classical.choose_spec hx.2.2.2.2.2) hb]
  rfl
theorem bestTour_no {net s : List Int} {node steps : Int} (h : ¬ (Asked net 3 s ∧ 0 ≤ steps ∧ steps < 12 ∧ 0 ≤ node ∧ node < net.length)) : bestTour net s node steps = [] := by
  unfold bestTour
  rw [dif_neg (fun x => h ⟨x.1, x.2.1, x.2.2.1, x.2.2.2.1, x.2.2.2.2.1⟩)]
theorem bestTour_length (net s : List Int) (node steps : Int) : (bestTour net s node steps).length ≤ 12 := by
  unfold bestTour
  split
  · rename_i h
    have := (Classical.choose_spec h.2.2.2.2.2).1
    simp only [List.length_cons, route_length]
    omega
  · decide
theorem few_wired {net s : List Int} (h : Asked net 3 s) {t i b : Nat} (hi : i < s.length) (hb : FewP net s t i b) : b = 0 ∨ Wired net s i := by
  by_cases e : b = 0
  · exact Or.inl e
  · refine Or.inr (Classical.byContradiction fun hw => ?_)
    obtain ⟨c, rfl⟩ : ∃ c, b = c + 1 := ⟨b - 1, by omega⟩
    have h1 := jst_alone (n := c) hw
    have h2 := hb.2.1
    have h3 := (turnedN_bd net s t i).1
    omega
/-- No tour climbs more than the most. -/
theorem climb_le_most {net s : List Int} (h : Asked net 3 s) : ∀ (t : List Int), TourP net t → climb s t ≤ turnedN net s (t.length - 1) (G t 0).toNat
  | [], ht => absurd ht.2.1 (by decide)
  | [a], ht => by
    show climb s [a] ≤ turnedN net s 0 _
    exact Int.le_refl _
  | a :: b :: t, ht => by
    have hb := ht.2.2.2.1
    have ha := ht.2.2.2.2
    have htl : TourP net (b :: t) := by
      have := tour_drop (n := 1) ht (by simp)
      simpa using this
    have ih := climb_le_most h (b :: t) htl
    have b0 := hb 0 (by simp)
    have b1 := hb 1 (by simp)
    have a0 := ha 0 (by simp)
    have hl := h.2.2
    have e0 : G (a :: b :: t) 0 = a := rfl
    have e1 : G (a :: b :: t) 1 = b := rfl
    have e2 : G (b :: t) 0 = b := rfl
    rw [e0] at b0
    rw [e1] at b1
    rw [e0, show G (a :: b :: t) (0 + 1) = b from rfl] at a0
    rw [climb_cons, e0]
    rw [e2] at ih
    show _ ≤ turnedN net s (t.length + 1) a.toNat
    have ih' : climb s (b :: t) ≤ turnedN net s t.length b.toNat := ih
    have h1 := maxA_ge (v := fun j => rise (G s a.toNat) (G s j) + turnedN net s t.length j) (init := 0) (show b.toNat < s.length by omega) a0
    rw [← turnedN_max0 h t.length (show a.toNat < s.length by omega)] at h1
    try simp only at h1
    omega
end Go.Proofs.Ytkofidpgbmajdaa.C
