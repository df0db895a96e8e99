/- Heights of a state: what one climbs from node to neighbour is the difference; told once, with 0 for the least node of each part. -/
import Derived.Test.YtgkjapgfldnjkaaTurn
set_option linter.unusedSimpArgs false
set_option linter.unusedVariables false
namespace Go.Proofs.Ytgkjapgfldnjkaa.C

/-- j is come to from i by steps to neighbours among the first n nodes. -/
def WayTo (net : List Int) (n i j : Nat) : Prop := ∀ P : Nat → Prop, P i → (∀ a b, a < n → b < n → adj net a b → P a → P b) → P j
theorem WayTo.refl (net : List Int) (n i : Nat) : WayTo net n i i := fun _ h _ => h
theorem WayTo.trans {net : List Int} {n i j k : Nat} (h1 : WayTo net n i j) (h2 : WayTo net n j k) : WayTo net n i k := fun P hi hc => h2 P (h1 P hi hc) hc
theorem WayTo.step {net : List Int} {n i j : Nat} (hi : i < n) (hj : j < n) (ha : adj net i j) : WayTo net n i j := fun P h hc => hc i j hi hj ha h
theorem WayTo.symm {net : List Int} {n i j : Nat} (hsym : ∀ a b, a < n → b < n → adj net a b → adj net b a) (h : WayTo net n i j) : WayTo net n j i :=
  h (fun x => WayTo net n x i) (WayTo.refl net n i) (fun a b ha hb hab hr => (WayTo.step hb ha (hsym a b ha hb hab)).trans hr)
theorem WayTo.lt {net : List Int} {n i j : Nat} (h : WayTo net n i j) (hi : i < n) : j < n := h (fun x => x < n) hi (fun _ b _ hb _ _ => hb)
/-- The least node of its part. -/
def Least (net : List Int) (n i : Nat) : Prop := ∀ j, WayTo net n i j → i ≤ j
theorem least_of (net : List Int) (n : Nat) : ∀ m i, i ≤ m → ∃ k, WayTo net n i k ∧ Least net n k ∧ k ≤ i
  | m, i, hm => by
    by_cases h : Least net n i
    · exact ⟨i, WayTo.refl _ _ _, h, Nat.le_refl _⟩
    · obtain ⟨j, hj⟩ := Classical.not_forall.1 h
      obtain ⟨hr, hlt⟩ := Classical.not_imp.1 hj
      cases m with
      | zero => omega
      | succ m =>
        obtain ⟨k, hk, hl, hki⟩ := least_of net n m j (by omega)
        exact ⟨k, hr.trans hk, hl, by omega⟩
theorem net_symm {net : List Int} (h : NetP net) {n : Nat} (hn : n = net.length) : ∀ a b, a < n → b < n → adj net a b → adj net b a :=
  fun a b ha hb hab => (adj_sym h (by omega) (by omega)).1 hab

def Heights (net s : List Int) (h : Nat → Int) : Prop := ∀ i j, i < s.length → j < s.length → adj net i j → h j = h i + rise (G s i) (G s j)
def Norm (net s : List Int) (h : Nat → Int) : Prop := Heights net s h ∧ ∀ i, i < s.length → Least net s.length i → h i = 0
theorem heights_diff {net s : List Int} {h g : Nat → Int} (hh : Heights net s h) (hg : Heights net s g) {i j : Nat} (hr : WayTo net s.length i j) : h j - g j = h i - g i :=
  hr (fun x => h x - g x = h i - g i) rfl (fun a b ha hb hab e => by rw [hh a b ha hb hab, hg a b ha hb hab]; omega)
theorem norm_unique {net s : List Int} {h g : Nat → Int} (hh : Norm net s h) (hg : Norm net s g) {i : Nat} (hi : i < s.length) : h i = g i := by
  obtain ⟨k, hk, hl, _⟩ := least_of net s.length i i (Nat.le_refl _)
  have e := heights_diff hh.1 hg.1 hk
  rw [hh.2 k (hk.lt hi) hl, hg.2 k (hk.lt hi) hl] at e
  omega
/-- Flat: there are heights. -/
def Flat (net s : List Int) : Prop := ∃ g, Heights net s g
theorem flat_norm {net s : List Int} (hA : Asked net 3 s) (h : Flat net s) : ∃ g, Norm net s g := by
  obtain ⟨g, hg⟩ := h
  have hex : ∀ i, ∃ k, WayTo net s.length i k ∧ Least net s.length k := fun i => by
    obtain ⟨k, h1, h2, _⟩ := least_of net s.length i i (Nat.le_refl _)
    exact ⟨k, h1, h2⟩
  have hs := net_symm hA.1 (n := s.length) hA.2.2.symm
  refine ⟨fun i => g i - g (Classical.choose (hex i)), fun i j hi hj ha => ?_, fun i hi hl => ?_⟩
  · have h1 := Classical.choose_spec (hex i)
    have h2 := Classical.choose_spec (hex j)
    have r1 := WayTo.step hi hj ha
    have e : Classical.choose (hex i) = Classical.choose (hex j) := by
      apply Nat.le_antisymm
      · exact h1.2 _ ((h1.1.symm hs).trans (r1.trans h2.1))
      · exact h2.2 _ ((h2.1.symm hs).trans ((r1.symm hs).trans h1.1))
    show g j - g _ = g i - g _ + _
    rw [e, hg i j hi hj ha]; omega
  · have h1 := Classical.choose_spec (hex i)
    have e : Classical.choose (hex i) = i := Nat.le_antisymm (h1.2 _ (h1.1.symm hs)) (hl _ h1.1)
    show g i - g _ = 0
    rw [e]; omega
open Classical in
/-- What HeightRow tells. -/
noncomputable def heightRow (net s : List Int) : List Int × Bool :=
  if h : Asked net 3 s ∧ ∃ g, Norm net s g then (mk s.length (Classical.choose h.2), true) else ([], false)
theorem heightRow_eq {net s x : List Int} (hA : Asked net 3 s) (hx : x.length = s.length) (hn : Norm net s (G x)) : heightRow net s = (x, true) := by
  have h : Asked net 3 s ∧ ∃ g, Norm net s g := ⟨hA, _, hn⟩
  unfold heightRow
  rw [dif_pos h]
  have e : x = mk s.length (Classical.choose h.2) := mk_eq_iff.2 ⟨hx, fun i hi => norm_unique hn (Classical.choose_spec h.2) hi⟩
  rw [← e]
theorem heightRow_no {net s : List Int} (h : ¬ (Asked net 3 s ∧ Flat net s)) : heightRow net s = ([], false) := by
  unfold heightRow
  rw [dif_neg]
  rintro ⟨hA, g, hg⟩
  exact h ⟨hA, g, hg.1⟩
theorem heightRow_flat (net s : List Int) : (heightRow net s).2 = true ↔ Asked net 3 s ∧ Flat net s := by
  constructor
  · intro h
    apply Classical.byContradiction
    intro hn
    rw [heightRow_no hn] at h
    cases h
  · rintro ⟨hA, hf⟩
    unfold heightRow
    rw [dif_pos ⟨hA, flat_norm hA hf⟩]
theorem heightRow_length (net s : List Int) : (heightRow net s).1.length ≤ 6 := by
  unfold heightRow
  split
  · rename_i h; show (mk s.length _).length ≤ 6; rw [mk_length]; exact asked6 h.1
  · show ([] : List Int).length ≤ 6; decide
theorem heightRow_spec {net s : List Int} (hA : Asked net 3 s) (hf : Flat net s) : ∃ x : List Int, x.length = s.length ∧ Norm net s (G x) ∧ heightRow net s = (x, true) := by
  obtain ⟨g, hg⟩ := flat_norm hA hf
  have hN : Norm net s (G (mk s.length g)) := by
    refine ⟨fun i j hi hj ha => ?_, fun i hi hl => ?_⟩
    · rw [G_mk _ hi, G_mk _ hj]; exact hg.1 i j hi hj ha
    · rw [G_mk _ hi]; exact hg.2 i hi hl
  exact ⟨_, mk_length _ _, hN, heightRow_eq hA (mk_length _ _) hN⟩
/-! a step that raises each node by 0 or 1 as the rises tell keeps heights -/
theorem flat_step {net s s' : List Int} {d : Nat → Int} (hl : s'.length = s.length)
    (hd : ∀ i j, i < s.length → j < s.length → adj net i j → rise (G s' i) (G s' j) = rise (G s i) (G s j) + d j - d i) : Flat net s' ↔ Flat net s := by
  constructor
  · rintro ⟨g, hg⟩
    refine ⟨fun i => g i - d i, fun i j hi hj ha => ?_⟩
    have := hg i j (by omega) (by omega) ha
    have := hd i j hi hj ha
    show g j - d j = g i - d i + _
    omega
  · rintro ⟨g, hg⟩
    refine ⟨fun i => g i + d i, fun i j hi hj ha => ?_⟩
    have := hg i j (by omega) (by omega) ha
    have := hd i j (by omega) (by omega) ha
    show g j + d j = g i + d i + _
    omega
theorem flat_turn {net s : List Int} (h : Asked net 3 s) : Flat net (turn net s) ↔ Flat net s :=
  flat_step (d := went net s) (turn_length _ _) (fun i j hi hj ha => rise_turn h hi hj ha)

end Go.Proofs.Ytgkjapgfldnjkaa.C
