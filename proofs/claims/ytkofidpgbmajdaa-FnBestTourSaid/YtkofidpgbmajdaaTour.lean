/- Tours of a net in plain lists: turned round, of one node, and what they climb. -/
import Derived.Test.YtkofidpgbmajdaaClean
set_option linter.unusedSimpArgs false
set_option linter.unusedVariables false
namespace Go.Proofs.Ytkofidpgbmajdaa.C

/-- A tour of a net. -/
def TourP (net t : List Int) : Prop := NetP net ∧ 1 ≤ t.length ∧ t.length ≤ 12 ∧ (∀ i, i < t.length → 0 ≤ G t i ∧ G t i < net.length) ∧ ∀ i, i + 1 < t.length → adj net (G t i).toNat (G t (i + 1)).toNat
instance (net t : List Int) : Decidable (TourP net t) := by
  unfold TourP
  have : Decidable (∀ i, i + 1 < t.length → adj net (G t i).toNat (G t (i + 1)).toNat) := decidable_of_iff (∀ i, i < t.length - 1 → adj net (G t i).toNat (G t (i + 1)).toNat) ⟨fun h i hi => h i (by omega), fun h i hi => h i (by omega)⟩
  infer_instance
theorem G_rev {t : List Int} {i : Nat} (h : i < t.length) : G t.reverse i = G t (t.length - 1 - i) := by
  rw [G_of_lt (by simpa using h), G_of_lt (by omega), List.getElem_reverse]
theorem tour_rev {net t : List Int} (h : TourP net t) : TourP net t.reverse := by
  obtain ⟨hn, h1, h12, hb, ha⟩ := h
  refine ⟨hn, by simpa using h1, by simpa using h12, fun i hi => ?_, fun i hi => ?_⟩
  · simp at hi
    rw [G_rev hi]; exact hb _ (by omega)
  · simp at hi
    rw [G_rev (show i < t.length by omega), G_rev (show i + 1 < t.length by omega)]
    have h2 := ha (t.length - 1 - (i + 1)) (by omega)
    rw [show t.length - 1 - (i + 1) + 1 = t.length - 1 - i from by omega] at h2
    have b1 := hb (t.length - 1 - i) (by omega)
    have b2 := hb (t.length - 1 - (i + 1)) (by omega)
    exact (adj_sym hn (by omega) (by omega)).1 h2
theorem tour_rev_iff {net t : List Int} : TourP net t.reverse ↔ TourP net t := ⟨fun h => by have := tour_rev h; rwa [List.reverse_reverse] at this, tour_rev⟩
theorem rev_take_succ {t : List Int} {i : Nat} (h : i < t.length) : (t.take (i + 1)).reverse = [G t i] ++ (t.take i).reverse := by
  rw [List.take_succ_eq_append_getElem h, List.reverse_append, G_of_lt h]; rfl
theorem tour_one {net : List Int} (hn : NetP net) : TourP net [((net.length : Int) - 1)] := by
  have := hn.1
  refine ⟨hn, by simp, by simp, fun i hi => ?_, fun i hi => ?_⟩
  · simp at hi; subst hi; simp [G]; omega
  · simp at hi

/-- What one climbs in the first n steps of a tour. -/
def climbTo (s t : List Int) (n : Nat) : Int := sumN (fun i => rise (G s (G t i).toNat) (G s (G t (i + 1)).toNat)) n
def climb (s t : List Int) : Int := climbTo s t (t.length - 1)
def ClimbP (net s t : List Int) : Prop := Asked net 3 s ∧ TourP net t
instance (net s t : List Int) : Decidable (ClimbP net s t) := by unfold ClimbP; infer_instance
def climbOf (net s t : List Int) : Int × Bool := if ClimbP net s t then (climb s t, true) else (0, false)
theorem climbOf_yes {net s t : List Int} (h : ClimbP net s t) : climbOf net s t = (climb s t, true) := if_pos h
theorem climbOf_no {net s t : List Int} (h : ¬ ClimbP net s t) : climbOf net s t = (0, false) := if_neg h
def windingOf (net s t : List Int) : Int × Bool := if ClimbP net s t ∧ G t 0 = G t (t.length - 1) then (Int.tdiv (climb s t) 3, true) else (0, false)
theorem windingOf_yes {net s t : List Int} (h : ClimbP net s t) (h2 : G t 0 = G t (t.length - 1)) : windingOf net s t = (Int.tdiv (climb s t) 3, true) := if_pos ⟨h, h2⟩
theorem windingOf_no {net s t : List Int} (h : ¬ (ClimbP net s t ∧ G t 0 = G t (t.length - 1))) : windingOf net s t = (0, false) := if_neg h
theorem rise_bound (a b : Int) : -1 ≤ rise a b ∧ rise a b ≤ 1 := by unfold rise; omega
theorem climbTo_bd (s t : List Int) (n : Nat) : -(n : Int) ≤ climbTo s t n ∧ climbTo s t n ≤ n := by
  have := sumN_bound (f := fun i => rise (G s (G t i).toNat) (G s (G t (i + 1)).toNat)) (n := n) (b := 1) (fun i _ => rise_bound _ _)
  unfold climbTo
  omega
theorem climbTo_succ (s t : List Int) (n : Nat) : climbTo s t (n + 1) = climbTo s t n + rise (G s (G t n).toNat) (G s (G t (n + 1)).toNat) := rfl
theorem climb_bd {net s t : List Int} (h : ClimbP net s t) : -12 ≤ climb s t ∧ climb s t ≤ 12 := by
  have := climbTo_bd s t (t.length - 1)
  have := h.2.2.2.1
  unfold climb; omega
/-! parts of tours, tours put together, tours that come back -/
theorem climbTo_congr {s t u : List Int} {n : Nat} (h : ∀ i, i ≤ n → G t i = G u i) : climbTo s t n = climbTo s u n :=
  sumN_congr (fun i hi => by rw [h i (by omega), h (i + 1) (by omega)])
theorem climbTo_shift {s t u : List Int} {m : Nat} : ∀ {n : Nat}, (∀ i, i ≤ n → G u i = G t (m + i)) → climbTo s t (m + n) = climbTo s t m + climbTo s u n
  | 0, _ => by show climbTo s t m = climbTo s t m + 0; omega
  | n + 1, h => by
    have ih := climbTo_shift (s := s) (t := t) (u := u) (m := m) (n := n) (fun i hi => h i (by omega))
    rw [← Nat.add_assoc, climbTo_succ, ih, climbTo_succ, h n (by omega), h (n + 1) (by omega), ← Nat.add_assoc]
    omega
theorem climb_take {s t : List Int} {n : Nat} (h : n < t.length) : climb s (t.take (n + 1)) = climbTo s t n := by
  unfold climb
  rw [List.length_take, show min (n + 1) t.length - 1 = n from by omega]
  exact climbTo_congr (fun i hi => G_take (by omega))
theorem climb_split {s t : List Int} {n : Nat} (h : n < t.length) : climb s (t.take (n + 1)) + climb s (t.drop n) = climb s t := by
  rw [climb_take h]
  unfold climb
  rw [List.length_drop]
  have := climbTo_shift (s := s) (t := t) (u := t.drop n) (m := n) (n := t.length - n - 1) (fun i _ => G_drop)
  rw [← this, show n + (t.length - n - 1) = t.length - 1 from by omega]
theorem tour_take {net t : List Int} {n : Nat} (h : TourP net t) (hn : n < t.length) : TourP net (t.take (n + 1)) := by
  obtain ⟨h0, h1, h12, hb, ha⟩ := h
  have hl : (t.take (n + 1)).length = n + 1 := by rw [List.length_take]; omega
  refine ⟨h0, by omega, by omega, fun i hi => ?_, fun i hi => ?_⟩
  · rw [hl] at hi; rw [G_take hi]; exact hb i (by omega)
  · rw [hl] at hi; rw [G_take (by omega), G_take (by omega)]; exact ha i (by omega)
theorem tour_drop {net t : List Int} {n : Nat} (h : TourP net t) (hn : n < t.length) : TourP net (t.drop n) := by
  obtain ⟨h0, h1, h12, hb, ha⟩ := h
  have hl : (t.drop n).length = t.length - n := List.length_drop
  refine ⟨h0, by omega, by omega, fun i hi => ?_, fun i hi => ?_⟩
  · rw [G_drop]; exact hb _ (by omega)
  · rw [G_drop, G_drop, ← Nat.add_assoc]; exact ha _ (by omega)
/-- A tour and another one from where it ends: the second one's first node is left out. -/
theorem G_join {t u : List Int} (h1 : 1 ≤ t.length) (hu : G u 0 = G t (t.length - 1)) (k : Nat) : G (t ++ u.drop 1) (t.length - 1 + k) = G u k := by
  cases k with
  | zero => rw [G_append_left (by omega), Nat.add_zero, hu]
  | succ k => rw [G_append_right (by omega), G_drop]; congr 1; omega
theorem climb_join {s t u : List Int} (h1 : 1 ≤ t.length) (h2 : 1 ≤ u.length) (hu : G u 0 = G t (t.length - 1)) : climb s (t ++ u.drop 1) = climb s t + climb s u := by
  unfold climb
  have hl : (t ++ u.drop 1).length - 1 = (t.length - 1) + (u.length - 1) := by rw [List.length_append, List.length_drop]; omega
  rw [hl, climbTo_shift (u := u) (fun i _ => (G_join h1 hu i).symm)]
  congr 1
  exact climbTo_congr (fun i hi => G_append_left (by omega))
theorem rise_back' (a b : Int) : rise b a = - rise a b := by unfold rise; omega
theorem climbTo_rev {s t : List Int} : ∀ (n : Nat), n < t.length → climbTo s t.reverse n = climbTo s t (t.length - 1 - n) - climbTo s t (t.length - 1)
  | 0, _ => by show (0 : Int) = _; rw [Nat.sub_zero]; omega
  | n + 1, h => by
    rw [climbTo_succ, climbTo_rev n (by omega), G_rev (show n < t.length by omega), G_rev h]
    have e : t.length - 1 - n = (t.length - 1 - (n + 1)) + 1 := by omega
    rw [e, climbTo_succ, ← e, rise_back']
    omega
theorem climb_rev {s t : List Int} (h1 : 1 ≤ t.length) : climb s t.reverse = - climb s t := by
  unfold climb
  rw [List.length_reverse, climbTo_rev (t.length - 1) (by omega), show t.length - 1 - (t.length - 1) = 0 from by omega]
  show (0 : Int) - _ = _
  omega
theorem rise_mod (a b : Int) : (rise a b - (b - a)) % 3 = 0 := by unfold rise; omega
theorem climbTo_mod (s t : List Int) : ∀ n, (climbTo s t n - (G s (G t n).toNat - G s (G t 0).toNat)) % 3 = 0
  | 0 => by show ((0 : Int) - _) % 3 = 0; omega
  | n + 1 => by
    have := climbTo_mod s t n
    have := rise_mod (G s (G t n).toNat) (G s (G t (n + 1)).toNat)
    rw [climbTo_succ]; omega
theorem climb_closed {s t : List Int} (h : G t 0 = G t (t.length - 1)) : climb s t % 3 = 0 := by
  have := climbTo_mod s t (t.length - 1)
  rw [← h] at this
  unfold climb; omega
theorem tdiv3 {c : Int} (h : c % 3 = 0) : Int.tdiv c 3 = c / 3 := by
  by_cases e : 0 ≤ c
  · exact Int.tdiv_eq_ediv_of_nonneg e
  · have h2 : Int.tdiv c 3 = - Int.tdiv (- c) 3 := by rw [Int.neg_tdiv]; omega
    rw [h2, Int.tdiv_eq_ediv_of_nonneg (by omega)]; omega
end Go.Proofs.Ytkofidpgbmajdaa.C
