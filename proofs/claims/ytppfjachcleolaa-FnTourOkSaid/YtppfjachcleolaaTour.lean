/- Tours of a net in plain lists: turned round, of one node, and what they climb. -/
import Derived.Test.YtppfjachcleolaaClean
set_option linter.unusedSimpArgs false
set_option linter.unusedVariables false
namespace Go.Proofs.Ytppfjachcleolaa.C

/-- A tour of a net. -/
def TourP (net t : List Int) : Prop := NetP net ∧ 1 ≤ t.length ∧ t.length ≤ 12 ∧ (∀ i, i < t.length → 0 ≤ G t i ∧ G t i < net.length) ∧ ∀ i, i + 1 < t.length → adj net (G t i).toNat (G t (i + 1)).toNat
instance (net t : List Int) : Decidable (TourP net t) := by
  unfold TourP
  have : Decidable (∀ i, i + 1 < t.length → adj net (G t i).toNat (G t (i + 1)).toNat) := decidable_of_iff (∀ i, i < t.length - 1 → adj net (G t i).toNat (G t (i + 1)).toNat) ⟨fun h i hi => h i (by omega), fun h i hi => h i (by omega)⟩
  infer_instance
theorem G_rev {t : List Int} {i : Nat} (h : i < t.length) : G t.reverse i = G t (t.length - 1 - i) := by
  rw [G_of_lt (by simpa using h), G_of_lt (by omega), List.getElem_reverse]
theorem tour_rev {net t : List Int} (h : TourP net t) : TourP net t.reverse := by
  obtain ⟨hn, h1, h12, hb, ha⟩ := h
  refine ⟨hn, by simpa using h1, by simpa using h12, fun i hi => ?_, fun i hi => ?_⟩
  · simp at hi
    rw [G_rev hi]; exact hb _ (by omega)
  · simp at hi
    rw [G_rev (show i < t.length by omega), G_rev (show i + 1 < t.length by omega)]
    have h2 := ha (t.length - 1 - (i + 1)) (by omega)
    rw [show t.length - 1 - (i + 1) + 1 = t.length - 1 - i from by omega] at h2
    have b1 := hb (t.length - 1 - i) (by omega)
    have b2 := hb (t.length - 1 - (i + 1)) (by omega)
    exact (adj_sym hn (by omega) (by omega)).1 h2
theorem tour_rev_iff {net t : List Int} : TourP net t.reverse ↔ TourP net t := ⟨fun h => by have := tour_rev h; rwa [List.reverse_reverse] at this, tour_rev⟩
theorem rev_take_succ {t : List Int} {i : Nat} (h : i < t.length) : (t.take (i + 1)).reverse = [G t i] ++ (t.take i).reverse := by
  rw [List.take_succ_eq_append_getElem h, List.reverse_append, G_of_lt h]; rfl
theorem tour_one {net : List Int} (hn : NetP net) : TourP net [((net.length : Int) - 1)] := by
  have := hn.1
  refine ⟨hn, by simp, by simp, fun i hi => ?_, fun i hi => ?_⟩
  · simp at hi; subst hi; simp [G]; omega
  · simp at hi

/-- What one climbs in the first n steps of a tour. -/
def climbTo (s t : List Int) (n : Nat) : Int := sumN (fun i => rise (G s (G t i).toNat) (G s (G t (i + 1)).toNat)) n
def climb (s t : List Int) : Int := climbTo s t (t.length - 1)
def ClimbP (net s t : List Int) : Prop := Asked net 3 s ∧ TourP net t
instance (net s t : List Int) : Decidable (ClimbP net s t) := by unfold ClimbP; infer_instance
def climbOf (net s t : List Int) : Int × Bool := if ClimbP net s t then (climb s t, true) else (0, false)
theorem climbOf_yes {net s t : List Int} (h : ClimbP net s t) : climbOf net s t = (climb s t, true) := if_pos h
theorem climbOf_no {net s t : List Int} (h : ¬ ClimbP net s t) : climbOf net s t = (0, false) := if_neg h
def windingOf (net s t : List Int) : Int × Bool := if ClimbP net s t ∧ G t 0 = G t (t.length - 1) then (Int.tdiv (climb s t) 3, true) else (0, false)
theorem windingOf_yes {net s t : List Int} (h : ClimbP net s t) (h2 : G t 0 = G t (t.length - 1)) : windingOf net s t = (Int.tdiv (climb s t) 3, true) := if_pos ⟨h, h2⟩
theorem windingOf_no {net s t : List Int} (h : ¬ (ClimbP net s t ∧ G t 0 = G t (t.length - 1))) : windingOf net s t = (0, false) := if_neg h
theorem rise_bound (a b : Int) : -1 ≤ rise a b ∧ rise a b ≤ 1 := by unfold rise; omega
theorem climbTo_bd (s t : List Int) (n : Nat) : -(n : Int) ≤ climbTo s t n ∧ climbTo s t n ≤ n := by
  have := sumN_bound (f := fun i => rise (G s (G t i).toNat) (G s (G t (i + 1)).toNat)) (n := n) (b := 1) (fun i _ => rise_bound _ _)
  unfold climbTo
  omega
theorem climbTo_succ (s t : List Int) (n : Nat) : climbTo s t (n + 1) = climbTo s t n + rise (G s (G t n).toNat) (G s (G t (n + 1)).toNat) := rfl
theorem climb_bd {net s t : List Int} (h : ClimbP net s t) : -12 ≤ climb s t ∧ climb s t ≤ 12 := by
  have := climbTo_bd s t (t.length - 1)
  have := h.2.2.2.1
  unfold climb; omega
end Go.Proofs.Ytppfjachcleolaa.C
