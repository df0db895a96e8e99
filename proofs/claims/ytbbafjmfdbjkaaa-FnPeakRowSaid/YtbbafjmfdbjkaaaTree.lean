/- Nets with as few wires as their parts allow: each wire leads from a node to the one before it on the way from the least node of the part, and each state is flat. -/
import Derived.Test.YtbbafjmfdbjkaaaStand
set_option linter.unusedSimpArgs false
set_option linter.unusedVariables false
namespace Go.Proofs.Ytbbafjmfdbjkaaa.C
def tri (f : Nat → Nat → Int) (n : Nat) : Int := sumN (fun i => sumN (fun j => f i j) i) n
def ind (net : List Int) (i j : Nat) : Int := if adj net i j then 1 else 0
def wires (net : List Int) : Int := tri (ind net) net.length
open Classical in
noncomputable def pLeast (net : List Int) (n i : Nat) : Nat := Classical.choose (least_of net n i i (Nat.le_refl _))
theorem pLeast_spec (net : List Int) (n i : Nat) : WayTo net n i (pLeast net n i) ∧ Least net n (pLeast net n i) ∧ pLeast net n i ≤ i := Classical.choose_spec (least_of net n i i (Nat.le_refl _))
theorem pLeast_eq {net : List Int} {n i k : Nat} (hs : ∀ a b, a < n → b < n → adj net a b → adj net b a) (h : WayTo net n i k) (hl : Least net n k) : pLeast net n i = k := by
  have h1 := pLeast_spec net n i
  exact Nat.le_antisymm (h1.2.1 _ ((h1.1.symm hs).trans h)) (hl _ ((h.symm hs).trans h1.1))
theorem pLeast_same {net : List Int} {n i k : Nat} (hs : ∀ a b, a < n → b < n → adj net a b → adj net b a) : pLeast net n i = pLeast net n k ↔ WayTo net n i k := by
  constructor
  · intro e
    have h1 := pLeast_spec net n i
    have h2 := pLeast_spec net n k
    rw [e] at h1
    exact h1.1.trans (h2.1.symm hs)
  · intro h
    have h2 := pLeast_spec net n k
    exact pLeast_eq hs (h.trans h2.1) h2.2.1
noncomputable def partsRow (net : List Int) : List Int := mk net.length (fun i => (pLeast net net.length i : Nat))
noncomputable def partsOf (net : List Int) : List Int := if NetP net then partsRow net else []
theorem partsRow_length (net : List Int) : (partsRow net).length = net.length := mk_length _ _
theorem partsOf_yes {net : List Int} (h : NetP net) : partsOf net = partsRow net := if_pos h
theorem partsOf_no {net : List Int} (h : ¬ NetP net) : partsOf net = [] := if_neg h
theorem G_partsRow {net : List Int} {i : Nat} (h : i < net.length) : G (partsRow net) i = (pLeast net net.length i : Nat) := G_mk _ h
section tree
variable {net : List Int}
end tree
def maxP (p : Nat → Prop) [DecidablePred p] (v : Nat → Int) (init : Int) : Nat → Int
  | 0 => init
  | n + 1 => if p n then mxi (maxP p v init n) (v n) else maxP p v init n
theorem maxP_ge {p : Nat → Prop} [DecidablePred p] {v : Nat → Int} {init : Int} {n j : Nat} (hj : j < n) (ha : p j) : v j ≤ maxP p v init n := by
  induction n with
  | zero => omega
  | succ n ih =>
    simp only [maxP]
    by_cases e : j = n
    · subst e; rw [if_pos ha]; exact le_mxi_right _ _
    · have := ih (by omega)
      split
      · exact Int.le_trans this (le_mxi_left _ _)
      · exact this
theorem maxP_or (p : Nat → Prop) [DecidablePred p] (v : Nat → Int) (init : Int) (n : Nat) : maxP p v init n = init ∨ ∃ j, j < n ∧ p j ∧ maxP p v init n = v j := by
  induction n with
  | zero => exact Or.inl rfl
  | succ n ih =>
    simp only [maxP]
    by_cases e : p n
    · rw [if_pos e]
      rcases mxi_or (maxP p v init n) (v n) with h | h
      · rw [h]
        rcases ih with h1 | ⟨j, hj, ha, h1⟩
        · exact Or.inl h1
        · exact Or.inr ⟨j, by omega, ha, h1⟩
      · exact Or.inr ⟨n, by omega, e, h⟩
    · rw [if_neg e]
      rcases ih with h1 | ⟨j, hj, ha, h1⟩
      · exact Or.inl h1
      · exact Or.inr ⟨j, by omega, ha, h1⟩
noncomputable def peakAt (net : List Int) (h : Nat → Int) (i : Nat) : Int := maxP (fun k => pLeast net net.length k = pLeast net net.length i) h (h i) net.length
theorem peakAt_spec {net s : List Int} {h : Nat → Int} (hA : Asked net 3 s) {i : Nat} (hi : i < net.length) : PeakP net s h i (peakAt net h i) := by
  have hs := net_symm hA.1 (n := s.length) hA.2.2.symm
  have hl := hA.2.2
  unfold peakAt
  rw [hl]
  constructor
  · rcases maxP_or (fun k => pLeast net s.length k = pLeast net s.length i) h (h i) s.length with e | ⟨j, hj, ha, e⟩
    · exact ⟨i, WayTo.refl _ _ _, e.symm⟩
    · exact ⟨j, ((pLeast_same hs).1 ha).symm hs, e.symm⟩
  · intro k hk
    exact maxP_ge (p := fun k => pLeast net s.length k = pLeast net s.length i) (hk.lt (by omega)) ((pLeast_same hs).2 (hk.symm hs))
noncomputable def peakRow (net s : List Int) : List Int := if (heightRow net s).2 = true then mk net.length (peakAt net (G (heightRow net s).1)) else []
theorem peakRow_length (net s : List Int) : (peakRow net s).length ≤ 6 := by
  unfold peakRow
  split
  · rename_i h; rw [mk_length]; exact ((heightRow_flat net s).1 h).1.1.2.1
  · decide
end Go.Proofs.Ytbbafjmfdbjkaaa.C
