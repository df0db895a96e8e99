/- What is flat comes to rest by firing with three kinds, and to a stand by turns; all stand as high as the highest node of their part. -/
import Derived.Test.YtgkjapgfldnjkaaFire
set_option linter.unusedSimpArgs false
set_option linter.unusedVariables false
namespace Go.Proofs.Ytgkjapgfldnjkaa.C

theorem sumN_le {f g : Nat → Int} {n : Nat} (h : ∀ i, i < n → f i ≤ g i) : sumN f n ≤ sumN g n := by
  induction n with
  | zero => exact Int.le_refl _
  | succ n ih =>
    simp only [sumN]
    have h1 := ih (fun i hi => h i (by omega))
    have h2 := h n (by omega)
    omega
theorem sumN_lt {f g : Nat → Int} {n k : Nat} (h : ∀ i, i < n → f i ≤ g i) (hk : k < n) (hlt : f k < g k) : sumN f n < sumN g n := by
  induction n with
  | zero => omega
  | succ n ih =>
    simp only [sumN]
    by_cases e : k = n
    · subst e
      have h1 := sumN_le (n := k) (fun i hi => h i (by omega))
      omega
    · have h1 := ih (fun i hi => h i (by omega)) (by omega)
      have h2 := h n (by omega)
      omega
theorem sumN_nonneg {f : Nat → Int} {n : Nat} (h : ∀ i, i < n → 0 ≤ f i) : 0 ≤ sumN f n := by
  have h1 := sumN_le (f := fun _ => 0) (g := f) (n := n) h
  have h2 : sumN (fun _ => 0) n = 0 := by
    clear h h1
    induction n with
    | zero => rfl
    | succ n ih => simp only [sumN]; rw [ih]; rfl
  omega
/-- Heights that tell the kinds. -/
def Lift (net s : List Int) (h : Nat → Int) : Prop := Heights net s h ∧ ∀ i, i < s.length → h i % 3 = G s i
theorem lift_of_flat {net s : List Int} (hA : Asked net 3 s) (hf : Flat net s) : ∃ h, Lift net s h := by
  obtain ⟨g, hg⟩ := hf
  refine ⟨fun i => g i - (g i - G s i) % 3, fun i j hi hj ha => ?_, fun i hi => ?_⟩
  · have h1 := hg i j hi hj ha
    have h2 := hA.2.1.2.2.2.2 i hi
    have h3 := hA.2.1.2.2.2.2 j hj
    have h4 : (rise (G s i) (G s j) - (G s j - G s i)) % 3 = 0 := by unfold rise; omega
    show g j - (g j - G s j) % 3 = g i - (g i - G s i) % 3 + rise (G s i) (G s j)
    omega
  · have h2 := hA.2.1.2.2.2.2 i hi
    show (g i - (g i - G s i) % 3) % 3 = G s i
    omega
theorem fireN_shift (net : List Int) (k : Int) (s : List Int) : ∀ t, fireN net k (fire net k s) t = fireN net k s (t + 1)
  | 0 => rfl
  | t + 1 => by rw [fireN, fireN_shift net k s t]; rfl
theorem turnN_shift (net s : List Int) : ∀ t, turnN net (turn net s) t = turnN net s (t + 1)
  | 0 => rfl
  | t + 1 => by rw [turnN, turnN_shift net s t]; rfl
theorem lift_fire {net s : List Int} {h : Nat → Int} (hA : Asked net 3 s) (hl : Lift net s h) : Lift net (fire net 3 s) (fun i => h i + fwent net s i) := by
  refine ⟨fun i j hi hj ha => ?_, fun i hi => ?_⟩
  · rw [fire_length] at hi hj
    have h1 := hl.1 i j hi hj ha
    have h2 := rise_fire hA hi hj ha
    show h j + fwent net s j = h i + fwent net s i + _
    omega
  · rw [fire_length] at hi
    have h1 := hl.2 i hi
    have h2 := hA.2.1.2.2.2.2 i hi
    show (h i + fwent net s i) % 3 = _
    rw [G_fire hi]
    unfold fwent
    by_cases p : 0 < G s i
    · simp only [p, if_true]; omega
    · simp only [p, if_false]
      by_cases q : Fires net s i
      · simp only [q, if_true]; omega
      · simp only [q, if_false]; omega
theorem ends_of_lift {net : List Int} {M : Int} (hM : M % 3 = 0) : ∀ (p : Nat) (s : List Int) (h : Nat → Int), Asked net 3 s → Lift net s h → (∀ i, i < s.length → h i ≤ M) → sumN (fun i => M - h i) s.length ≤ p →
    ∃ t, AtRest (fireN net 3 s t) := by
  intro p
  induction p with
  | zero =>
    intro s h hA hl hm hp
    refine ⟨0, fun i hi => ?_⟩
    have h1 := hl.2 i hi
    have h2 : h i = M := by
      apply Classical.byContradiction
      intro hne
      have := sumN_lt (f := fun _ => 0) (g := fun i => M - h i) (n := s.length) (k := i) (fun j hj => by have := hm j hj; omega) hi (by have := hm i hi; show 0 < M - h i; omega)
      have h0 := sumN_nonneg (f := fun _ => (0 : Int)) (n := s.length) (fun _ _ => Int.le_refl _)
      omega
    show G s i = 0
    rw [← h1, h2]; exact hM
  | succ p ih =>
    intro s h hA hl hm hp
    by_cases hr : AtRest s
    · exact ⟨0, hr⟩
    · obtain ⟨i, hi, hne⟩ : ∃ i, i < s.length ∧ G s i ≠ 0 := by
        apply Classical.byContradiction
        intro hno
        exact hr (fun i hi => Classical.byContradiction (fun hne => hno ⟨i, hi, hne⟩))
      have hup : ∀ j, j < s.length → h j + fwent net s j ≤ M := by
        intro j hj
        have h1 := hm j hj
        have h2 := hl.2 j hj
        unfold fwent
        by_cases q : 0 < G s j
        · simp only [q, if_true]
          have : h j ≠ M := by rintro e; rw [e] at h2; omega
          omega
        · simp only [q, if_false]
          by_cases q2 : Fires net s j
          · simp only [q2, if_true]
            obtain ⟨x, hx, ha, e⟩ := q2
            have h3 := hl.1 j x hj hx ha
            have h4 := hm x hx
            have h5 := hA.2.1.2.2.2.2 j hj
            have h6 : rise (G s j) (G s x) = 1 := by rw [e, show G s j = 0 by omega]; rfl
            omega
          · simp only [q2, if_false]; omega
      have hlt : sumN (fun j => M - (h j + fwent net s j)) s.length < sumN (fun j => M - h j) s.length := by
        refine sumN_lt (k := i) (fun j hj => ?_) hi ?_
        · have : 0 ≤ fwent net s j := by unfold fwent; split <;> (try split) <;> omega
          show M - (h j + fwent net s j) ≤ M - h j
          omega
        · have h5 := hA.2.1.2.2.2.2 i hi
          have : fwent net s i = 1 := by unfold fwent; rw [if_pos (by omega)]
          show M - (h i + fwent net s i) < M - h i
          omega
      obtain ⟨t, ht⟩ := ih (fire net 3 s) _ (fire_ok hA) (lift_fire hA hl) (fun j hj => hup j (by rwa [fire_length] at hj)) (by rw [fire_length]; omega)
      exact ⟨t + 1, by rw [← fireN_shift]; exact ht⟩
theorem bound_exists (h : Nat → Int) : ∀ n, ∃ M : Int, M % 3 = 0 ∧ ∀ i, i < n → h i ≤ M
  | 0 => ⟨0, rfl, fun i hi => by omega⟩
  | n + 1 => by
    obtain ⟨M, hM, hb⟩ := bound_exists h n
    by_cases e : h n ≤ M
    · refine ⟨M, hM, fun i hi => ?_⟩
      by_cases g : i = n
      · subst g; exact e
      · exact hb i (by omega)
    · refine ⟨h n + (3 - h n % 3), by omega, fun i hi => ?_⟩
      by_cases g : i = n
      · subst g; omega
      · have := hb i (by omega); omega
theorem flat_ends {net s : List Int} (hA : Asked net 3 s) : Flat net s ↔ ∃ t, EndsP net 3 s t := by
  constructor
  · intro hf
    obtain ⟨h, hl⟩ := lift_of_flat hA hf
    obtain ⟨M, hM, hb⟩ := bound_exists h s.length
    obtain ⟨t, ht⟩ := ends_of_lift hM (sumN (fun i => M - h i) s.length).toNat s h hA hl hb (by omega)
    obtain ⟨u, _, hu⟩ := ends_of_rest t ht
    exact ⟨u, hu⟩
  · rintro ⟨t, ht⟩
    exact (flat_fireN hA t).1 (flat_rest ht.1)

/-! turns -/
def Still (net s : List Int) : Prop := turn net s = s
def StandsP (net s : List Int) (t : Nat) : Prop := Still net (turnN net s t) ∧ ∀ u, u < t → ¬ Still net (turnN net s u)
theorem stands_unique {net s : List Int} {t u : Nat} (h : StandsP net s t) (g : StandsP net s u) : t = u := by
  rcases Nat.lt_trichotomy t u with x | x | x
  · exact absurd h.1 (g.2 t x)
  · exact x
  · exact absurd g.1 (h.2 u x)
theorem still_later {net s : List Int} {t : Nat} (h : Still net (turnN net s t)) : ∀ q, turnN net s (t + q) = turnN net s t
  | 0 => rfl
  | q + 1 => by rw [← Nat.add_assoc, turnN, still_later h q]; exact h
theorem stands_of_still {net s : List Int} : ∀ t, Still net (turnN net s t) → ∃ u, u ≤ t ∧ StandsP net s u
  | 0, h => ⟨0, Nat.le_refl _, h, fun u hu => by omega⟩
  | t + 1, h => by
    by_cases g : Still net (turnN net s t)
    · obtain ⟨u, hu, h1⟩ := stands_of_still t g
      exact ⟨u, by omega, h1⟩
    · refine ⟨t + 1, Nat.le_refl _, h, fun u hu hr => g ?_⟩
      have := still_later hr (t - u)
      rw [show u + (t - u) = t from by omega] at this
      rw [this]; exact hr
theorem stands_loop {net s : List Int} {t : Nat} : StandsP net s t ↔ IsLoop (turnN net s) t 1 := by
  constructor
  · intro h
    refine ⟨Nat.le_refl _, h.1, fun i j hij hj e => ?_⟩
    have h2 := orbit_shift (turnN_orbit net s) e (t - j)
    rw [show j + (t - j) = t from by omega] at h2
    exact h.2 (i + (t - j)) (by omega) (by rw [h2]; exact h.1)
  · intro h
    refine ⟨h.2.1, fun u hu hs => h.2.2 u (u + 1) (by omega) (by omega) ?_⟩
    exact hs.symm
/-- What stands still has neighbours of one kind. -/
theorem still_same {net s : List Int} (hA : Asked net 3 s) (h : Still net s) {i j : Nat} (hi : i < s.length) (hj : j < s.length) (ha : adj net i j) : G s i = G s j := by
  have hn : ∀ k, k < s.length → ¬ Goes net s k := fun k hk => (turn_ne hA hk).1 (by unfold Still at h; rw [h])
  have h1 : rise (G s i) (G s j) ≠ 1 := fun e => hn i hi ((goes_iff_rise hA hi).2 ⟨j, hj, ha, e⟩)
  have h2 : rise (G s j) (G s i) ≠ 1 := fun e => hn j hj ((goes_iff_rise hA hj).2 ⟨i, hi, (adj_sym hA.1 (by rw [hA.2.2]; exact hi) (by rw [hA.2.2]; exact hj)).1 ha, e⟩)
  have b1 := hA.2.1.2.2.2.2 i hi
  have b2 := hA.2.1.2.2.2.2 j hj
  unfold rise at h1 h2
  omega
theorem still_flat {net s : List Int} (hA : Asked net 3 s) (h : Still net s) : Flat net s :=
  ⟨fun _ => 0, fun i j hi hj ha => by rw [still_same hA h hi hj ha]; show (0 : Int) = 0 + rise _ _; unfold rise; omega⟩
theorem still_of_none {net s : List Int} (hA : Asked net 3 s) (h : ∀ k, k < s.length → ¬ Goes net s k) : Still net s :=
  ext (turn_length _ _) (fun i hi => by rw [turn_length] at hi; exact (turn_ne hA hi).2 (h i hi))
/-- The greatest height of the part. -/
def PeakP (net s : List Int) (h : Nat → Int) (i : Nat) (m : Int) : Prop := (∃ k, WayTo net s.length i k ∧ h k = m) ∧ ∀ k, WayTo net s.length i k → h k ≤ m
theorem peak_unique {net s : List Int} {h : Nat → Int} {i : Nat} {m m' : Int} (a : PeakP net s h i m) (b : PeakP net s h i m') : m = m' := by
  obtain ⟨⟨k, hk, rfl⟩, h1⟩ := a
  obtain ⟨⟨k', hk', rfl⟩, h2⟩ := b
  have := h1 k' hk'
  have := h2 k hk
  omega
theorem wayTo_rch {net : List Int} {n i j : Nat} (h : WayTo net n i j) : ∃ t, Rch net n (fun x => x = i) t j :=
  h (fun x => ∃ t, Rch net n (fun x => x = i) t x) ⟨0, rfl⟩ (fun a b ha hb hab ⟨t, ht⟩ => ⟨t + 1, Or.inr ⟨a, ha, ht, hab⟩⟩)
theorem rch_wayTo {net : List Int} {n i : Nat} (hi : i < n) : ∀ t j, j < n → Rch net n (fun x => x = i) t j → WayTo net n i j
  | 0, j, _, h => by have e : j = i := h; rw [e]; exact WayTo.refl _ _ _
  | t + 1, j, hj, h => by
    rcases h with g | ⟨x, hx, hr, ha⟩
    · exact rch_wayTo hi t j hj g
    · exact (rch_wayTo hi t x hx hr).trans (WayTo.step hx hj ha)
theorem heights_near {net s : List Int} {h : Nat → Int} (hh : Heights net s h) {i : Nat} (hi : i < s.length) : ∀ t j, j < s.length → Rch net s.length (fun x => x = i) t j → h i - t ≤ h j ∧ h j ≤ h i + t
  | 0, j, _, hr => by have e : j = i := hr; rw [e]; omega
  | t + 1, j, hj, hr => by
    rcases hr with g | ⟨x, hx, hr, ha⟩
    · have := heights_near hh hi t j hj g; omega
    · have h1 := heights_near hh hi t x hx hr
      have h2 := hh x j hx hj ha
      have h3 := rise_le (G s x) (G s j)
      omega
theorem heights_range {net s : List Int} {h : Nat → Int} (hh : Heights net s h) (h6 : s.length ≤ 6) {i j : Nat} (hi : i < s.length) (hw : WayTo net s.length i j) : h i - 5 ≤ h j ∧ h j ≤ h i + 5 := by
  have hj := hw.lt hi
  obtain ⟨t, ht⟩ := wayTo_rch hw
  have := heights_near hh hi _ j hj (rch_bound hj ht)
  omega
theorem peak_exists_aux {net s : List Int} (h : Nat → Int) (i : Nat) (hi : i < s.length) : ∀ n, ∃ m, (∃ k, WayTo net s.length i k ∧ h k = m) ∧ ∀ k, k < n → WayTo net s.length i k → h k ≤ m
  | 0 => ⟨h i, ⟨i, WayTo.refl _ _ _, rfl⟩, fun k hk => by omega⟩
  | n + 1 => by
    obtain ⟨m, ⟨k, hk, e⟩, hm⟩ := peak_exists_aux (net := net) (s := s) h i hi n
    by_cases g : WayTo net s.length i n ∧ m < h n
    · refine ⟨h n, ⟨n, g.1, rfl⟩, fun x hx hw => ?_⟩
      by_cases y : x = n
      · subst y; exact Int.le_refl _
      · have := hm x (by omega) hw; omega
    · refine ⟨m, ⟨k, hk, e⟩, fun x hx hw => ?_⟩
      by_cases y : x = n
      · subst y
        apply Classical.byContradiction
        intro hlt
        exact g ⟨hw, by omega⟩
      · exact hm x (by omega) hw
theorem peak_exists {net s : List Int} (h : Nat → Int) {i : Nat} (hi : i < s.length) : ∃ m, PeakP net s h i m := by
  obtain ⟨m, h1, h2⟩ := peak_exists_aux (net := net) (s := s) h i hi s.length
  exact ⟨m, h1, fun k hk => h2 k (hk.lt hi) hk⟩
theorem peak_adj {net s : List Int} {h : Nat → Int} (hA : Asked net 3 s) {i j : Nat} {m : Int} (hi : i < s.length) (hj : j < s.length) (hw : WayTo net s.length i j) (hp : PeakP net s h i m) : PeakP net s h j m := by
  have hs := net_symm hA.1 (n := s.length) hA.2.2.symm
  obtain ⟨⟨k, hk, e⟩, h2⟩ := hp
  exact ⟨⟨k, (hw.symm hs).trans hk, e⟩, fun x hx => h2 x (hw.trans hx)⟩
/-- The heights at turn t. -/
theorem heights_turnN {net s : List Int} {h : Nat → Int} (hA : Asked net 3 s) (hh : Heights net s h) (t : Nat) : Heights net (turnN net s t) (fun i => h i + turnedN net s t i) := by
  intro i j hi hj ha
  rw [turnN_length] at hi hj
  have h1 := hh i j hi hj ha
  have h2 := rise_turnN hA hi hj ha t
  show h j + turnedN net s t j = h i + turnedN net s t i + _
  omega
/-- No node turns higher than the peak. -/
theorem turned_le_peak {net s : List Int} {h : Nat → Int} (hA : Asked net 3 s) (hh : Heights net s h) : ∀ t i m, i < s.length → PeakP net s h i m → h i + turnedN net s t i ≤ m
  | 0, i, m, hi, hp => by rw [turnedN_zero]; have := hp.2 i (WayTo.refl _ _ _); omega
  | t + 1, i, m, hi, hp => by
    have ih := turned_le_peak hA hh t
    have h1 := ih i m hi hp
    rw [turnedN_succ]
    unfold went
    by_cases g : Goes net (turnN net s t) i
    · rw [if_pos g]
      have ht := turnN_ok hA t
      obtain ⟨j, hj, ha, e⟩ := (goes_iff_rise ht (show i < (turnN net s t).length by rw [turnN_length]; exact hi)).1 g
      rw [turnN_length] at hj
      have h2 := heights_turnN hA hh t i j (by rw [turnN_length]; exact hi) (by rw [turnN_length]; exact hj) ha
      have h3 := ih j m hj (peak_adj hA hi hj (WayTo.step hi hj ha) hp)
      simp only at h2
      omega
    · rw [if_neg g]; omega
/-- Within 30 turns the state stands. -/
theorem stands_exists {net s : List Int} (hA : Asked net 3 s) (hf : Flat net s) : ∃ t, t ≤ 30 ∧ StandsP net s t := by
  obtain ⟨h, hh⟩ := hf
  have h6 := asked6 hA
  apply Classical.byContradiction
  intro hno
  have hns : ∀ t, t ≤ 30 → ¬ Still net (turnN net s t) := fun t ht hs => by
    obtain ⟨u, hu, h1⟩ := stands_of_still t hs
    exact hno ⟨u, by omega, h1⟩
  have hgrow : ∀ t : Nat, t ≤ 31 → (t : Int) ≤ sumN (fun i => turnedN net s t i) s.length := by
    intro t
    induction t with
    | zero => intro _; exact sumN_nonneg (fun i _ => (turnedN_bd net s 0 i).1)
    | succ t ih =>
      intro ht
      have h1 := ih (by omega)
      have hst := hns t (by omega)
      have hex : ∃ k, k < s.length ∧ Goes net (turnN net s t) k := by
        apply Classical.byContradiction
        intro hn
        exact hst (still_of_none (turnN_ok hA t) (fun k hk hg => hn ⟨k, by rwa [turnN_length] at hk, hg⟩))
      obtain ⟨k, hk, hg⟩ := hex
      have h2 := sumN_lt (f := fun i => turnedN net s t i) (g := fun i => turnedN net s (t + 1) i) (n := s.length) (k := k) (fun i _ => turnedN_mono net s t i) hk (by
        show turnedN net s t k < turnedN net s (t + 1) k
        rw [turnedN_succ]; unfold went; rw [if_pos hg]; omega)
      omega
  have h31 := hgrow 31 (by omega)
  have hle : sumN (fun i => turnedN net s 31 i) s.length ≤ sumN (fun _ => 5) s.length := by
    refine sumN_le (fun i hi => ?_)
    obtain ⟨m, hm⟩ := peak_exists (net := net) (s := s) h hi
    have h1 := turned_le_peak hA hh 31 i m hi hm
    obtain ⟨⟨k, hk, e⟩, _⟩ := hm
    have h2 := heights_range hh h6 hi hk
    show turnedN net s 31 i ≤ 5
    omega
  have h5 := sumN_bound (f := fun _ => (5 : Int)) (n := s.length) (b := 5) (fun _ _ => by omega)
  omega
theorem flat_stands {net s : List Int} (hA : Asked net 3 s) : Flat net s ↔ ∃ t, StandsP net s t := by
  constructor
  · intro hf
    obtain ⟨t, _, ht⟩ := stands_exists hA hf
    exact ⟨t, ht⟩
  · rintro ⟨t, ht⟩
    exact (flat_turnN hA t).1 (still_flat (turnN_ok hA t) ht.1)
/-- Where the state stands each node has turned up to the peak. -/
theorem peak_turned {net s : List Int} {h : Nat → Int} (hA : Asked net 3 s) (hh : Heights net s h) {t i : Nat} {m : Int} (hs : Still net (turnN net s t)) (hi : i < s.length) (hp : PeakP net s h i m) : h i + turnedN net s t i = m := by
  have hH := heights_turnN hA hh t
  have hsame : ∀ k, WayTo net s.length i k → h k + turnedN net s t k = h i + turnedN net s t i := fun k hk =>
    hk (fun x => h x + turnedN net s t x = h i + turnedN net s t i) rfl (fun a b ha hb hab e => by
      have h1 := hH a b (by rw [turnN_length]; exact ha) (by rw [turnN_length]; exact hb) hab
      have h2 := still_same (turnN_ok hA t) hs (by rw [turnN_length]; exact ha) (by rw [turnN_length]; exact hb) hab
      rw [h2] at h1
      have h3 : rise (G (turnN net s t) b) (G (turnN net s t) b) = 0 := by unfold rise; omega
      simp only at h1
      omega)
  have h1 := turned_le_peak hA hh t i m hi hp
  obtain ⟨⟨k, hk, e⟩, _⟩ := hp
  have h2 := hsame k hk
  have h3 := (turnedN_bd net s t k).1
  omega
open Classical in
noncomputable def standsAt (net s : List Int) : Int := if h : Asked net 3 s ∧ ∃ t, StandsP net s t then (Classical.choose h.2 : Nat) else -1
theorem standsAt_eq {net s : List Int} {t : Nat} (hA : Asked net 3 s) (h : StandsP net s t) : standsAt net s = t := by
  have hex : Asked net 3 s ∧ ∃ t, StandsP net s t := ⟨hA, t, h⟩
  unfold standsAt
  rw [dif_pos hex, stands_unique (Classical.choose_spec hex.2) h]
theorem standsAt_no {net s : List Int} (h : ¬ (Asked net 3 s ∧ ∃ t, StandsP net s t)) : standsAt net s = -1 := by
  unfold standsAt; rw [dif_neg h]
/-- The number of a state. -/
def numS (q : Nat) : List Int → Nat
  | [] => 0
  | a :: l => numS q l * q + a.toNat
theorem numS_lt (q : Nat) : ∀ l : List Int, (∀ i, i < l.length → 0 ≤ G l i ∧ G l i < q) → numS q l < q ^ l.length
  | [], _ => by simp [numS]
  | a :: l, h => by
    have h0 : 0 ≤ a ∧ a < q := h 0 (by simp)
    have ih := numS_lt q l (fun i hi => by have := h (i + 1) (by simp; omega); rwa [G_cons_succ] at this)
    show numS q l * q + a.toNat < q ^ (l.length + 1)
    rw [Nat.pow_succ]
    have h1 : (numS q l + 1) * q ≤ q ^ l.length * q := Nat.mul_le_mul_right q ih
    rw [Nat.add_mul, Nat.one_mul] at h1
    omega
theorem numS_inj (q : Nat) : ∀ l m : List Int, l.length = m.length → (∀ i, i < l.length → 0 ≤ G l i ∧ G l i < q) → (∀ i, i < m.length → 0 ≤ G m i ∧ G m i < q) → numS q l = numS q m → l = m
  | [], [], _, _, _, _ => rfl
  | [], _ :: _, h, _, _, _ => by simp at h
  | _ :: _, [], h, _, _, _ => by simp at h
  | a :: l, b :: m, h, ha, hb, e => by
    have a0 : 0 ≤ a ∧ a < q := ha 0 (by simp)
    have b0 : 0 ≤ b ∧ b < q := hb 0 (by simp)
    have e' : numS q l * q + a.toNat = numS q m * q + b.toNat := e
    have em := congrArg (· % q) e'
    have ed := congrArg (· / q) e'
    simp only [Nat.mul_add_mod_self_right, Nat.mod_eq_of_lt (show a.toNat < q by omega), Nat.mod_eq_of_lt (show b.toNat < q by omega)] at em
    have hq : 0 < q := by omega
    rw [em] at e'
    have e2 : numS q l * q = numS q m * q := by omega
    have e3 : numS q l = numS q m := Nat.eq_of_mul_eq_mul_right hq e2
    have ih := numS_inj q l m (by simpa using h) (fun i hi => by have := ha (i + 1) (by simp; omega); rwa [G_cons_succ] at this) (fun i hi => by have := hb (i + 1) (by simp; omega); rwa [G_cons_succ] at this) e3
    rw [show a = b by omega, ih]
theorem numS_rest {q : Nat} (hq : 0 < q) : ∀ l : List Int, (∀ i, i < l.length → 0 ≤ G l i) → (numS q l = 0 ↔ AtRest l)
  | [], _ => ⟨fun _ i hi => by simp at hi, fun _ => rfl⟩
  | a :: l, h => by
    have h0 : 0 ≤ a := h 0 (by simp)
    have ih := numS_rest hq l (fun i hi => by have := h (i + 1) (by simp; omega); rwa [G_cons_succ] at this)
    have e : numS q (a :: l) = numS q l * q + a.toNat := rfl
    constructor
    · intro hz
      rw [e] at hz
      have h1 : numS q l * q = 0 := by omega
      have h2 : numS q l = 0 := by
        rcases Nat.mul_eq_zero.1 h1 with x | x
        · exact x
        · omega
      have h3 := ih.1 h2
      intro i hi
      cases i with
      | zero => show a = 0; omega
      | succ i => rw [G_cons_succ]; exact h3 i (by simpa using hi)
    · intro hr
      have h1 : a = 0 := hr 0 (by simp)
      have h2 : numS q l = 0 := ih.2 (fun i hi => by have := hr (i + 1) (by simp; omega); rwa [G_cons_succ] at this)
      rw [e, h1, h2]; simp
theorem numS_state_rest {k : Int} {s : List Int} (h : 3 ≤ k) (hs : ∀ i, i < s.length → 0 ≤ G s i ∧ G s i < k) : numS k.toNat s = 0 ↔ AtRest s :=
  numS_rest (by omega) s (fun i hi => (hs i hi).1)
theorem numS_bound {k : Int} {s : List Int} (h : StateP k s) : numS k.toNat s < 15625 := by
  have h3 := h.1
  have h5 := h.2.1
  have h1 := numS_lt k.toNat s (fun i hi => by have := h.2.2.2.2 i hi; omega)
  have h2 : k.toNat ^ s.length ≤ 5 ^ 6 := Nat.le_trans (Nat.pow_le_pow_right (by omega) h.2.2.2.1) (Nat.pow_le_pow_left (by omega) 6)
  have h4 : (5 : Nat) ^ 6 = 15625 := by decide
  omega
theorem numS_state_inj {k : Int} {s u : List Int} (h : StateP k s) (g : StateP k u) (hl : s.length = u.length) (e : numS k.toNat s = numS k.toNat u) : s = u := by
  have h3 := h.1
  exact numS_inj k.toNat s u hl (fun i hi => by have := h.2.2.2.2 i hi; omega) (fun i hi => by have := g.2.2.2.2 i hi; omega) e
theorem turn_loop_exists {net s : List Int} (hA : Asked net 3 s) : ∃ b L, IsLoop (turnN net s) b L ∧ b + L ≤ 15625 :=
  isLoop_exists (num := numS 3) (m := 15625) (fun i => numS_bound (turnN_ok hA i).2.1) (fun i j e => numS_state_inj (turnN_ok hA i).2.1 (turnN_ok hA j).2.1 (by rw [turnN_length, turnN_length]) e)
theorem fire_loop_exists {net s : List Int} {k : Int} (hA : Asked net k s) : ∃ b L, IsLoop (fireN net k s) b L ∧ b + L ≤ 15625 :=
  isLoop_exists (num := numS k.toNat) (m := 15625) (fun i => numS_bound (fireN_ok hA i).2.1) (fun i j e => numS_state_inj (fireN_ok hA i).2.1 (fireN_ok hA j).2.1 (by rw [fireN_length, fireN_length]) e)
open Classical in
/-- What TurnLoop tells. -/
noncomputable def turnLoop (net s : List Int) : Int × Int := if h : Asked net 3 s ∧ ∃ p : Nat × Nat, IsLoop (turnN net s) p.1 p.2 then (((Classical.choose h.2).1 : Nat), ((Classical.choose h.2).2 : Nat)) else (-1, -1)
theorem turnLoop_eq {net s : List Int} {b L : Nat} (hA : Asked net 3 s) (h : IsLoop (turnN net s) b L) : turnLoop net s = ((b : Int), (L : Int)) := by
  have hex : Asked net 3 s ∧ ∃ p : Nat × Nat, IsLoop (turnN net s) p.1 p.2 := ⟨hA, (b, L), h⟩
  unfold turnLoop
  rw [dif_pos hex]
  obtain ⟨e1, e2⟩ := isLoop_unique (Classical.choose_spec hex.2) h
  rw [e1, e2]
theorem turnLoop_no {net s : List Int} (h : ¬ Asked net 3 s) : turnLoop net s = (-1, -1) := by
  unfold turnLoop; rw [dif_neg (fun x => h x.1)]
end Go.Proofs.Ytgkjapgfldnjkaa.C
