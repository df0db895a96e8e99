/- Nets and states with other names for their nodes. -/
import Derived.Test.YtgkjapgfldnjkaaTree
import Derived.Test.YtgkjapgfldnjkaaBase
set_option linter.unusedSimpArgs false
set_option linter.unusedVariables false
namespace Go.Proofs.Ytgkjapgfldnjkaa.C
open Go.Proofs.Ytgkjapgfldnjkaa.B

def OrderP (n : Nat) (o : List Int) : Prop := o.length = n ∧ (∀ i, i < n → 0 ≤ G o i ∧ G o i < n) ∧ ∀ i j, i < n → j < n → G o i = G o j → i = j
theorem sumN_ones : ∀ n : Nat, sumN (fun _ => (1 : Int)) n = n
  | 0 => rfl
  | n + 1 => by show sumN (fun _ => (1 : Int)) n + 1 = _; rw [sumN_ones n]; omega
theorem bits_lt {z : Int} {n : Nat} (h0 : 0 ≤ z) (h : ∀ k, bitOf z k → k < n) : z < 2 ^ n := by
  obtain ⟨m, rfl⟩ := Int.eq_ofNat_of_zero_le h0
  have hm : m < 2 ^ n := by
    apply Nat.lt_pow_two_of_testBit
    intro i hi
    cases hb : m.testBit i with
    | false => rfl
    | true => have := h i ((bit_cast m i).2 hb); omega
  rw [two_pow_cast]; omega
/-- Each node has a name. -/
theorem order_onto {n : Nat} {o : List Int} (h : OrderP n o) {v : Nat} (hv : v < n) : ∃ i, i < n ∧ G o i = (v : Int) := by
  apply Classical.byContradiction
  intro hno
  have hno' : ∀ i, i < n → (G o i).toNat ≠ v := fun i hi e => hno ⟨i, hi, by have := (h.2.1 i hi).1; omega⟩
  have hf0 : sumN (fun i => if (G o i).toNat = v then (1 : Int) else 0) n = 0 := by
    rw [sumN_congr (g := fun _ => 0) (fun i hi => if_neg (hno' i hi))]
    exact sumN_zero n
  have hle : ∀ w, w < n → sumN (fun i => if (G o i).toNat = w then (1 : Int) else 0) n ≤ 1 := by
    intro w hw
    by_cases hex : ∃ i, i < n ∧ (G o i).toNat = w
    · obtain ⟨i, hi, e⟩ := hex
      rw [sumN_congr (g := fun j => if i = j then (1 : Int) else 0) (fun j hj => by
        by_cases ej : i = j
        · subst ej; rw [if_pos e, if_pos rfl]
        · rw [if_neg ej, if_neg]
          intro e2
          have b1 := h.2.1 i hi
          have b2 := h.2.1 j hj
          exact ej (h.2.2 i j hi hj (by omega)))]
      rw [sumN_one hi]
      exact Int.le_refl _
    · rw [sumN_congr (g := fun _ => 0) (fun i hi => if_neg (fun e => hex ⟨i, hi, e⟩)), sumN_zero]
      decide
  have hlt := sumN_lt (f := fun w => sumN (fun i => if (G o i).toNat = w then (1 : Int) else 0) n) (g := fun _ => (1 : Int)) (n := n) (k := v) hle hv (by show sumN _ n < 1; rw [hf0]; decide)
  rw [sumN_ones, ← sumN_swap (fun i w => if (G o i).toNat = w then (1 : Int) else 0)] at hlt
  rw [sumN_congr (g := fun _ => (1 : Int)) (fun i hi => sumN_one (by have := h.2.1 i hi; omega)), sumN_ones] at hlt
  omega
/-- The state so named. -/
def NamedS (o s x : List Int) : Prop := x.length = s.length ∧ ∀ i, i < s.length → G x (G o i).toNat = G s i
/-- The net so named. -/
def NamedN (net o x : List Int) : Prop := x.length = net.length ∧ ∀ i, i < net.length → 0 ≤ G x (G o i).toNat ∧ ∀ k : Nat, bitOf (G x (G o i).toNat) k ↔ ∃ q, q < net.length ∧ adj net i q ∧ G o q = (k : Int)
theorem named_adj {net o x : List Int} (h : OrderP net.length o) (hx : NamedN net o x) {i j : Nat} (hi : i < net.length) (hj : j < net.length) : adj x (G o i).toNat (G o j).toNat ↔ adj net i j := by
  have b := (h.2.1 j hj).1
  refine ((hx.2 i hi).2 (G o j).toNat).trans ?_
  constructor
  · rintro ⟨q, hq, ha, e⟩
    have : q = j := h.2.2 q j hq hj (by omega)
    subst this; exact ha
  · intro ha; exact ⟨j, hj, ha, by omega⟩
theorem named_turn {net s o x y z : List Int} (hA : Asked net 3 s) (h : OrderP net.length o) (hx : NamedN net o x) (hy : NamedS o s y) (hz : NamedS o (turn net s) z) : Asked x 3 y ∧ turn x y = z := by
  have hl := hA.2.2
  have hxl := hx.1
  have hyl := hy.1
  have hzl := hz.1
  rw [turn_length] at hzl
  have hnm : ∀ v, v < net.length → ∃ i, i < net.length ∧ (G o i).toNat = v := fun v hv => by
    obtain ⟨i, hi, e⟩ := order_onto h hv
    exact ⟨i, hi, by omega⟩
  have hA2 : Asked x 3 y := by
    refine ⟨⟨by rw [hxl]; exact hA.1.1, by rw [hxl]; exact hA.1.2.1, fun v hv => ?_⟩, ⟨by decide, by decide, by rw [hyl]; exact hA.2.1.2.2.1, by rw [hyl]; exact hA.2.1.2.2.2.1, fun v hv => ?_⟩, by omega⟩
    · rw [hxl] at hv ⊢
      obtain ⟨i, hi, rfl⟩ := hnm v hv
      refine ⟨(hx.2 i hi).1, bits_lt (hx.2 i hi).1 (fun k hk => ?_), fun ha => adj_irr hA.1 hi ((named_adj h hx hi hi).1 ha), fun k hk => ?_⟩
      · obtain ⟨q, hq, _, e⟩ := ((hx.2 i hi).2 k).1 hk
        have := h.2.1 q hq
        omega
      · obtain ⟨j, hj, rfl⟩ := hnm k hk
        rw [named_adj h hx hi hj, named_adj h hx hj hi]
        exact adj_sym hA.1 hi hj
    · obtain ⟨i, hi, rfl⟩ := hnm v (by omega)
      rw [hy.2 i (by omega)]
      exact hA.2.1.2.2.2.2 i (by omega)
  refine ⟨hA2, ?_⟩
  refine ext (by rw [turn_length]; omega) (fun v hv => ?_)
  rw [turn_length] at hv
  obtain ⟨i, hi, rfl⟩ := hnm v (by omega)
  rw [G_turn hv, hz.2 i (by rw [turn_length]; omega), G_turn (by omega), hy.2 i (by omega)]
  have hg : Goes x y (G o i).toNat ↔ Goes net s i := by
    unfold Goes
    rw [hy.2 i (by omega)]
    constructor
    · rintro ⟨w, hw, ha, e⟩
      obtain ⟨j, hj, rfl⟩ := hnm w (by omega)
      rw [hy.2 j (by omega)] at e
      exact ⟨j, by omega, (named_adj h hx hi hj).1 ha, e⟩
    · rintro ⟨j, hj, ha, e⟩
      have b := h.2.1 j (by omega)
      refine ⟨(G o j).toNat, by omega, (named_adj h hx hi (by omega)).2 ha, ?_⟩
      rw [hy.2 j hj]; exact e
  by_cases e : Goes net s i
  · rw [if_pos e, if_pos (hg.2 e)]
  · rw [if_neg e, if_neg (fun g => e (hg.1 g))]
end Go.Proofs.Ytgkjapgfldnjkaa.C
