/- Nets with as few wires as their parts allow: each wire leads from a node to the one before it on the way from the least node of the part, and each state is flat. -/
import Derived.Test.YtgkjapgfldnjkaaStand
set_option linter.unusedSimpArgs false
set_option linter.unusedVariables false
namespace Go.Proofs.Ytgkjapgfldnjkaa.C

theorem sumN_add (f g : Nat → Int) : ∀ n, sumN (fun i => f i + g i) n = sumN f n + sumN g n
  | 0 => rfl
  | n + 1 => by simp only [sumN]; rw [sumN_add f g n]; omega
theorem sumN_zero : ∀ n, sumN (fun _ => 0) n = 0
  | 0 => rfl
  | n + 1 => by simp only [sumN]; rw [sumN_zero n]; rfl
theorem sumN_swap (f : Nat → Nat → Int) (m : Nat) : ∀ n, sumN (fun i => sumN (fun j => f i j) m) n = sumN (fun j => sumN (fun i => f i j) n) m
  | 0 => by simp only [sumN]; exact (sumN_zero m).symm
  | n + 1 => by simp only [sumN]; rw [sumN_swap f m n, ← sumN_add]
theorem sumN_one {n p : Nat} (h : p < n) : sumN (fun j => if p = j then 1 else 0) n = 1 := by
  have hz : ∀ m, m ≤ p → sumN (fun j => if p = j then (1 : Int) else 0) m = 0 := fun m hm => by
    rw [sumN_congr (g := fun _ => 0) (fun i hi => if_neg (by omega))]
    exact sumN_zero m
  have hs : ∀ d, sumN (fun j => if p = j then (1 : Int) else 0) (p + 1 + d) = 1 := by
    intro d
    induction d with
    | zero => simp only [Nat.add_zero, sumN]; rw [hz p (Nat.le_refl _)]; simp
    | succ d ih => rw [← Nat.add_assoc]; simp only [sumN]; rw [ih, if_neg (by omega)]; rfl
  have := hs (n - (p + 1))
  rwa [show p + 1 + (n - (p + 1)) = n from by omega] at this
def sq (f : Nat → Nat → Int) (n : Nat) : Int := sumN (fun i => sumN (fun j => f i j) n) n
def tri (f : Nat → Nat → Int) (n : Nat) : Int := sumN (fun i => sumN (fun j => f i j) i) n
theorem sq_tri {f : Nat → Nat → Int} : ∀ n, (∀ i j, i < n → j < n → f i j = f j i) → (∀ i, i < n → f i i = 0) → sq f n = 2 * tri f n
  | 0, _, _ => rfl
  | n + 1, hs, hd => by
    have ih := sq_tri n (fun i j hi hj => hs i j (by omega) (by omega)) (fun i hi => hd i (by omega))
    unfold sq tri at *
    simp only [sumN]
    rw [sumN_add, ih, hd n (by omega), sumN_congr (f := fun i => f i n) (g := fun j => f n j) (fun i hi => hs i n (by omega) (by omega))]
    omega
theorem tri_le {f g : Nat → Nat → Int} {n : Nat} (h : ∀ i j, i < n → j < i → f i j ≤ g i j) : tri f n ≤ tri g n :=
  sumN_le (fun i hi => sumN_le (fun j hj => h i j hi hj))
theorem tri_lt {f g : Nat → Nat → Int} {n a b : Nat} (h : ∀ i j, i < n → j < i → f i j ≤ g i j) (ha : a < n) (hb : b < a) (hlt : f a b < g a b) : tri f n < tri g n :=
  sumN_lt (fun i hi => sumN_le (fun j hj => h i j hi hj)) ha (sumN_lt (fun j hj => h a j ha hj) hb hlt)

def ind (net : List Int) (i j : Nat) : Int := if adj net i j then 1 else 0
/-- How many neighbours all nodes have together. -/
def ends2 (net : List Int) : Int := sq (ind net) net.length
def wires (net : List Int) : Int := tri (ind net) net.length
theorem ends2_wires {net : List Int} (h : NetP net) : ends2 net = 2 * wires net :=
  sq_tri _ (fun i j hi hj => by unfold ind; simp only [adj_sym h hi hj]) (fun i hi => by unfold ind; rw [if_neg (adj_irr h hi)])
open Classical in
noncomputable def nonRoots (net : List Int) : Int := sumN (fun i => if Least net net.length i then 0 else 1) net.length
/-- The least node of the part. -/
noncomputable def pLeast (net : List Int) (n i : Nat) : Nat := Classical.choose (least_of net n i i (Nat.le_refl _))
theorem pLeast_spec (net : List Int) (n i : Nat) : WayTo net n i (pLeast net n i) ∧ Least net n (pLeast net n i) ∧ pLeast net n i ≤ i := Classical.choose_spec (least_of net n i i (Nat.le_refl _))
theorem pLeast_eq {net : List Int} {n i k : Nat} (hs : ∀ a b, a < n → b < n → adj net a b → adj net b a) (h : WayTo net n i k) (hl : Least net n k) : pLeast net n i = k := by
  have h1 := pLeast_spec net n i
  exact Nat.le_antisymm (h1.2.1 _ ((h1.1.symm hs).trans h)) (hl _ ((h.symm hs).trans h1.1))
theorem pLeast_self {net : List Int} {n i : Nat} : pLeast net n i = i ↔ Least net n i := by
  constructor
  · intro e; have := (pLeast_spec net n i).2.1; rwa [e] at this
  · intro h
    exact Nat.le_antisymm (pLeast_spec net n i).2.2 (h _ (pLeast_spec net n i).1)
theorem pLeast_same {net : List Int} {n i k : Nat} (hs : ∀ a b, a < n → b < n → adj net a b → adj net b a) : pLeast net n i = pLeast net n k ↔ WayTo net n i k := by
  constructor
  · intro e
    have h1 := pLeast_spec net n i
    have h2 := pLeast_spec net n k
    rw [e] at h1
    exact h1.1.trans (h2.1.symm hs)
  · intro h
    have h2 := pLeast_spec net n k
    exact pLeast_eq hs (h.trans h2.1) h2.2.1
noncomputable def partsRow (net : List Int) : List Int := mk net.length (fun i => (pLeast net net.length i : Nat))
noncomputable def partsOf (net : List Int) : List Int := if NetP net then partsRow net else []
theorem partsRow_length (net : List Int) : (partsRow net).length = net.length := mk_length _ _
theorem partsOf_yes {net : List Int} (h : NetP net) : partsOf net = partsRow net := if_pos h
theorem partsOf_no {net : List Int} (h : ¬ NetP net) : partsOf net = [] := if_neg h
theorem partsOf_length {net : List Int} : (partsOf net).length ≤ 6 := by
  unfold partsOf
  split
  · rename_i h; rw [partsRow_length]; exact h.2.1
  · decide
theorem G_partsRow {net : List Int} {i : Nat} (h : i < net.length) : G (partsRow net) i = (pLeast net net.length i : Nat) := G_mk _ h

section tree
variable {net : List Int}
/-- The steps from the least nodes. -/
theorem root_dist (h : NetP net) {i : Nat} (hi : i < net.length) : ∃ d, Dist net net.length (Least net net.length) i d := by
  have h1 := pLeast_spec net net.length i
  have hs := net_symm h (n := net.length) rfl
  have hw := h1.1.symm hs
  have hr : ∃ t, Rch net net.length (Least net net.length) t i :=
    hw (fun x => ∃ t, Rch net net.length (Least net net.length) t x) ⟨0, h1.2.1⟩ (fun a b ha hb hab ⟨t, ht⟩ => ⟨t + 1, Or.inr ⟨a, ha, ht, hab⟩⟩)
  obtain ⟨t, ht⟩ := hr
  obtain ⟨d, _, hd⟩ := dist_of_rch t ht
  exact ⟨d, hd⟩
noncomputable def rd_ (net : List Int) (i : Nat) : Nat := (distOf net net.length (Least net net.length) i).toNat
theorem rd_spec (h : NetP net) {i : Nat} (hi : i < net.length) : Dist net net.length (Least net net.length) i (rd_ net i) := by
  obtain ⟨d, hd⟩ := root_dist h hi
  unfold rd_
  rw [distOf_eq hd]; exact hd
theorem rd_zero (h : NetP net) {i : Nat} (hi : i < net.length) : rd_ net i = 0 ↔ Least net net.length i := by
  constructor
  · intro e; have := rd_spec h hi; rw [e] at this; exact dist_zero.1 this
  · intro hl; exact dist_unique (rd_spec h hi) (dist_zero.2 hl)
theorem par_exists (h : NetP net) (i : Nat) : ∃ j, (i < net.length → rd_ net i ≠ 0 → j < net.length ∧ rd_ net j + 1 = rd_ net i ∧ adj net j i) := by
  by_cases hi : i < net.length
  · by_cases e : rd_ net i = 0
    · exact ⟨0, fun _ x => absurd e x⟩
    · obtain ⟨d, hd⟩ : ∃ d, rd_ net i = d + 1 := ⟨rd_ net i - 1, by omega⟩
      have h1 := rd_spec h hi
      rw [hd] at h1
      obtain ⟨j, hj, h2, ha⟩ := dist_pred h1
      exact ⟨j, fun _ _ => ⟨hj, by rw [hd, dist_unique (rd_spec h hj) h2], ha⟩⟩
  · exact ⟨0, fun x => absurd x hi⟩
noncomputable def par_ (h : NetP net) (i : Nat) : Nat := Classical.choose (par_exists h i)
theorem par_spec (h : NetP net) {i : Nat} (hi : i < net.length) (e : rd_ net i ≠ 0) : par_ h i < net.length ∧ rd_ net (par_ h i) + 1 = rd_ net i ∧ adj net (par_ h i) i := Classical.choose_spec (par_exists h i) hi e
/-- i's way to its part's least node begins with j. -/
noncomputable def up_ (h : NetP net) (i j : Nat) : Int := if rd_ net i = 0 then 0 else if par_ h i = j then 1 else 0
theorem up_both (h : NetP net) {i j : Nat} (hi : i < net.length) (hj : j < net.length) : 0 ≤ up_ h i j + up_ h j i ∧ up_ h i j + up_ h j i ≤ ind net i j := by
  have hs := adj_sym h hi hj
  unfold up_ ind
  by_cases e1 : rd_ net i = 0
  · rw [if_pos e1]
    by_cases e2 : rd_ net j = 0
    · rw [if_pos e2]; split <;> omega
    · rw [if_neg e2]
      have p2 := par_spec h hj e2
      by_cases g : par_ h j = i
      · rw [if_pos g, if_pos (by rw [← g]; exact p2.2.2)]; omega
      · rw [if_neg g]; split <;> omega
  · rw [if_neg e1]
    have p1 := par_spec h hi e1
    by_cases g1 : par_ h i = j
    · rw [if_pos g1, if_pos (hs.2 (by rw [← g1]; exact p1.2.2))]
      by_cases e2 : rd_ net j = 0
      · rw [if_pos e2]; omega
      · rw [if_neg e2]
        have p2 := par_spec h hj e2
        rw [if_neg (fun g => by rw [g] at p2; rw [g1] at p1; omega)]; omega
    · rw [if_neg g1]
      by_cases e2 : rd_ net j = 0
      · rw [if_pos e2]; split <;> omega
      · rw [if_neg e2]
        have p2 := par_spec h hj e2
        by_cases g : par_ h j = i
        · rw [if_pos g, if_pos (by rw [← g]; exact p2.2.2)]; omega
        · rw [if_neg g]; split <;> omega
theorem up_sum (h : NetP net) : sumN (fun i => sumN (fun j => up_ h i j) net.length) net.length = nonRoots net := by
  unfold nonRoots
  refine sumN_congr (fun i hi => ?_)
  by_cases e : rd_ net i = 0
  · rw [if_pos ((rd_zero h hi).1 e), sumN_congr (g := fun _ => 0) (fun j _ => by unfold up_; rw [if_pos e])]
    exact sumN_zero _
  · rw [if_neg (fun x => e ((rd_zero h hi).2 x)), sumN_congr (g := fun j => if par_ h i = j then 1 else 0) (fun j _ => by unfold up_; rw [if_neg e])]
    exact sumN_one (par_spec h hi e).1
theorem up_tri (h : NetP net) : tri (fun i j => up_ h i j + up_ h j i) net.length = nonRoots net := by
  have h1 := sq_tri (f := fun i j => up_ h i j + up_ h j i) net.length (fun i j _ _ => by show _ + _ = _ + _; omega) (fun i hi => by
    show up_ h i i + up_ h i i = 0
    have := up_both h hi hi
    unfold ind at this
    rw [if_neg (adj_irr h hi)] at this
    omega)
  have h2 : sq (fun i j => up_ h i j + up_ h j i) net.length = 2 * nonRoots net := by
    unfold sq
    have e1 : ∀ i, sumN (fun j => up_ h i j + up_ h j i) net.length = sumN (fun j => up_ h i j) net.length + sumN (fun j => up_ h j i) net.length := fun i => sumN_add _ _ _
    rw [sumN_congr (g := fun i => sumN (fun j => up_ h i j) net.length + sumN (fun j => up_ h j i) net.length) (fun i _ => e1 i), sumN_add, up_sum,
      sumN_swap (fun i j => up_ h j i) net.length net.length, up_sum]
    omega
  omega
theorem wires_ge (h : NetP net) : nonRoots net ≤ wires net := by
  rw [← up_tri h]
  exact tri_le (fun i j hi hj => (up_both h hi (by omega)).2)
/-- With as few wires each wire leads up. -/
theorem wires_eq (h : NetP net) (e : wires net = nonRoots net) {i j : Nat} (hi : i < net.length) (hj : j < net.length) (ha : adj net i j) : (rd_ net i ≠ 0 ∧ par_ h i = j) ∨ (rd_ net j ≠ 0 ∧ par_ h j = i) := by
  apply Classical.byContradiction
  intro hno
  have key : ∀ a b, a < net.length → b < a → adj net a b → ¬ ((rd_ net a ≠ 0 ∧ par_ h a = b) ∨ (rd_ net b ≠ 0 ∧ par_ h b = a)) → False := by
    intro a b ha' hb hab hn
    have hz : up_ h a b + up_ h b a = 0 := by
      unfold up_
      by_cases e1 : rd_ net a = 0
      · rw [if_pos e1]
        by_cases e2 : rd_ net b = 0
        · rw [if_pos e2]; rfl
        · rw [if_neg e2, if_neg (fun g => hn (Or.inr ⟨e2, g⟩))]; rfl
      · rw [if_neg e1, if_neg (fun g => hn (Or.inl ⟨e1, g⟩))]
        by_cases e2 : rd_ net b = 0
        · rw [if_pos e2]; rfl
        · rw [if_neg e2, if_neg (fun g => hn (Or.inr ⟨e2, g⟩))]; rfl
    have hlt := tri_lt (f := fun i j => up_ h i j + up_ h j i) (g := ind net) (n := net.length) (fun i j hi hj => (up_both h hi (by omega)).2) ha' hb (by
      show up_ h a b + up_ h b a < ind net a b
      rw [hz]; unfold ind; rw [if_pos hab]; decide)
    rw [up_tri] at hlt
    unfold wires at e
    omega
  rcases Nat.lt_trichotomy i j with g | g | g
  · exact key j i hj g ((adj_sym h hi hj).1 ha) (fun x => hno (x.elim Or.inr Or.inl))
  · subst g; exact adj_irr h hi ha
  · exact key i j hi g ha hno
noncomputable def treeH (h : NetP net) (s : List Int) : Nat → Nat → Int
  | 0, _ => 0
  | d + 1, i => treeH h s d (par_ h i) + rise (G s (par_ h i)) (G s i)
theorem tree_flat {s : List Int} (hA : Asked net 3 s) (e : wires net = nonRoots net) : Flat net s := by
  have h := hA.1
  have hl := hA.2.2
  have hg : ∀ i, i < net.length → rd_ net i ≠ 0 → treeH h s (rd_ net i) i = treeH h s (rd_ net (par_ h i)) (par_ h i) + rise (G s (par_ h i)) (G s i) := by
    intro i hi hne
    have hp := par_spec h hi hne
    have e1 : rd_ net i = rd_ net (par_ h i) + 1 := hp.2.1.symm
    conv => lhs; rw [e1]
    rfl
  refine ⟨fun i => treeH h s (rd_ net i) i, fun i j hi hj ha => ?_⟩
  rcases wires_eq h e (by omega) (by omega) ha with ⟨h1, h2⟩ | ⟨h1, h2⟩
  · have := hg i (by omega) h1
    rw [h2] at this
    have h3 : rise (G s j) (G s i) = - rise (G s i) (G s j) := by unfold rise; omega
    show treeH h s (rd_ net j) j = treeH h s (rd_ net i) i + _
    omega
  · have := hg j (by omega) h1
    rw [h2] at this
    exact this
end tree

/-! peaks -/
def maxP (p : Nat → Prop) [DecidablePred p] (v : Nat → Int) (init : Int) : Nat → Int
  | 0 => init
  | n + 1 => if p n then mxi (maxP p v init n) (v n) else maxP p v init n
theorem maxP_init (p : Nat → Prop) [DecidablePred p] (v : Nat → Int) (init : Int) (n : Nat) : init ≤ maxP p v init n := by
  induction n with
  | zero => exact Int.le_refl _
  | succ n ih =>
    simp only [maxP]
    split
    · exact Int.le_trans ih (le_mxi_left _ _)
    · exact ih
theorem maxP_ge {p : Nat → Prop} [DecidablePred p] {v : Nat → Int} {init : Int} {n j : Nat} (hj : j < n) (ha : p j) : v j ≤ maxP p v init n := by
  induction n with
  | zero => omega
  | succ n ih =>
    simp only [maxP]
    by_cases e : j = n
    · subst e; rw [if_pos ha]; exact le_mxi_right _ _
    · have := ih (by omega)
      split
      · exact Int.le_trans this (le_mxi_left _ _)
      · exact this
theorem maxP_or (p : Nat → Prop) [DecidablePred p] (v : Nat → Int) (init : Int) (n : Nat) : maxP p v init n = init ∨ ∃ j, j < n ∧ p j ∧ maxP p v init n = v j := by
  induction n with
  | zero => exact Or.inl rfl
  | succ n ih =>
    simp only [maxP]
    by_cases e : p n
    · rw [if_pos e]
      rcases mxi_or (maxP p v init n) (v n) with h | h
      · rw [h]
        rcases ih with h1 | ⟨j, hj, ha, h1⟩
        · exact Or.inl h1
        · exact Or.inr ⟨j, by omega, ha, h1⟩
      · exact Or.inr ⟨n, by omega, e, h⟩
    · rw [if_neg e]
      rcases ih with h1 | ⟨j, hj, ha, h1⟩
      · exact Or.inl h1
      · exact Or.inr ⟨j, by omega, ha, h1⟩
noncomputable def peakAt (net : List Int) (h : Nat → Int) (i : Nat) : Int := maxP (fun k => pLeast net net.length k = pLeast net net.length i) h (h i) net.length
theorem peakAt_spec {net s : List Int} {h : Nat → Int} (hA : Asked net 3 s) {i : Nat} (hi : i < net.length) : PeakP net s h i (peakAt net h i) := by
  have hs := net_symm hA.1 (n := s.length) hA.2.2.symm
  have hl := hA.2.2
  unfold peakAt
  rw [hl]
  constructor
  · rcases maxP_or (fun k => pLeast net s.length k = pLeast net s.length i) h (h i) s.length with e | ⟨j, hj, ha, e⟩
    · exact ⟨i, WayTo.refl _ _ _, e.symm⟩
    · exact ⟨j, ((pLeast_same hs).1 ha).symm hs, e.symm⟩
  · intro k hk
    exact maxP_ge (p := fun k => pLeast net s.length k = pLeast net s.length i) (hk.lt (by omega)) ((pLeast_same hs).2 (hk.symm hs))
noncomputable def peakRow (net s : List Int) : List Int := if (heightRow net s).2 = true then mk net.length (peakAt net (G (heightRow net s).1)) else []
theorem peakRow_length (net s : List Int) : (peakRow net s).length ≤ 6 := by
  unfold peakRow
  split
  · rename_i h; rw [mk_length]; exact ((heightRow_flat net s).1 h).1.1.2.1
  · decide
end Go.Proofs.Ytgkjapgfldnjkaa.C
