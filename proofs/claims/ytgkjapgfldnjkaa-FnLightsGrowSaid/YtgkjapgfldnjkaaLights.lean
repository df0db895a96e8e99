/- The fewest lights that reach all nodes in so many steps. -/
import Derived.Test.YtgkjapgfldnjkaaTree
import Derived.Test.YtgkjapgfldnjkaaBase
set_option linter.unusedSimpArgs false
set_option linter.unusedVariables false
namespace Go.Proofs.Ytgkjapgfldnjkaa.C
open Go.Proofs.Ytgkjapgfldnjkaa.B

/-- How many nodes a set has. -/
def popc (x : Int) : Int := sumN (fun j => if x / 2 ^ j % 2 = 1 then 1 else 0) 6
theorem sumN_tail {f : Nat → Int} {n : Nat} : ∀ m, n ≤ m → (∀ j, n ≤ j → j < m → f j = 0) → sumN f m = sumN f n
  | 0, h, _ => by rw [show n = 0 by omega]
  | m + 1, h, hz => by
    by_cases e : n = m + 1
    · rw [e]
    · have ih := sumN_tail (f := f) m (by omega) (fun j h1 h2 => hz j h1 (by omega))
      show sumN f m + f m = _
      rw [ih, hz m (by omega) (by omega)]; omega
theorem sumN_const1 : ∀ n : Nat, sumN (fun _ => (1 : Int)) n = n
  | 0 => rfl
  | n + 1 => by show sumN (fun _ => (1 : Int)) n + 1 = _; rw [sumN_const1 n]; omega
theorem sumN_part {f : Nat → Int} {n j : Nat} (h : ∀ i, i < n → 0 ≤ f i) (hj : j < n) : f j ≤ sumN f n := by
  induction n with
  | zero => omega
  | succ n ih =>
    have h0 := h n (by omega)
    show f j ≤ sumN f n + f n
    by_cases e : j = n
    · subst e
      have := sumN_nonneg (f := f) (n := j) (fun i hi => h i (by omega))
      omega
    · have := ih (fun i hi => h i (by omega)) (by omega)
      omega
theorem popc_bd (x : Int) : 0 ≤ popc x ∧ popc x ≤ 6 := by
  have h1 := sumN_nonneg (f := fun j => if x / 2 ^ j % 2 = 1 then (1 : Int) else 0) (n := 6) (fun i _ => by show 0 ≤ (if _ then (1 : Int) else 0); split <;> omega)
  have h2 := sumN_bound (f := fun j => if x / 2 ^ j % 2 = 1 then (1 : Int) else 0) (n := 6) (b := 1) (fun i _ => by show _ ≤ (if _ then (1 : Int) else 0) ∧ (if _ then (1 : Int) else 0) ≤ _; split <;> omega)
  unfold popc
  exact ⟨h1, by omega⟩
theorem popc_n {x : Int} {n : Nat} (h0 : 0 ≤ x) (h : x < 2 ^ n) (hn : n ≤ 6) : popc x = sumN (fun j => if bitOf x j then 1 else 0) n := by
  unfold popc
  refine (sumN_tail (f := fun j => if x / 2 ^ j % 2 = 1 then (1 : Int) else 0) 6 hn (fun j h1 _ => ?_)).trans (sumN_congr (fun j _ => rfl))
  exact if_neg (fun hb => by have := bit_lt h0 h hb; omega)
theorem popc_lt_all : ∀ n ∈ List.range 7, ∀ k ∈ List.range (2 ^ n - 1), popc ((k : Nat) : Int) < popc ((2 ^ n - 1 : Nat) : Int) := by decide +kernel
theorem popc_full_all : ∀ n ∈ List.range 7, popc ((2 ^ n - 1 : Nat) : Int) = (n : Int) := by decide +kernel
theorem full_cast (n : Nat) : (2 : Int) ^ n - 1 = ((2 ^ n - 1 : Nat) : Int) := by
  have h1 : 0 < 2 ^ n := Nat.pow_pos (by decide)
  rw [two_pow_cast]; omega
theorem popc_full {n : Nat} (h : n ≤ 6) : popc ((2 : Int) ^ n - 1) = n := by rw [full_cast]; exact popc_full_all n (List.mem_range.2 (by omega))
theorem popc_less {n k : Nat} (h : n ≤ 6) (hk : (k : Int) < 2 ^ n - 1) : popc (k : Int) < popc ((2 : Int) ^ n - 1) := by
  rw [full_cast] at hk ⊢
  exact popc_lt_all n (List.mem_range.2 (by omega)) k (List.mem_range.2 (by omega))
/-- The set whose nodes are told. -/
theorem set_exists (P : Nat → Prop) : ∀ n : Nat, ∃ m : Nat, m < 2 ^ n ∧ ∀ k, m.testBit k = true ↔ k < n ∧ P k
  | 0 => ⟨0, by decide, fun k => by simp⟩
  | n + 1 => by
    obtain ⟨m, hm, hb⟩ := set_exists P n
    have hp : 2 ^ n < 2 ^ (n + 1) := Nat.pow_lt_pow_right (by decide) (by omega)
    by_cases e : P n
    · refine ⟨m ||| 2 ^ n, Nat.or_lt_two_pow (by omega) hp, fun k => ?_⟩
      rw [Nat.testBit_or, Nat.testBit_two_pow, Bool.or_eq_true, decide_eq_true_eq, hb k]
      constructor
      · rintro (⟨h1, h2⟩ | h)
        · exact ⟨by omega, h2⟩
        · subst h; exact ⟨by omega, e⟩
      · rintro ⟨h1, h2⟩
        by_cases g : k = n
        · exact Or.inr g.symm
        · exact Or.inl ⟨by omega, h2⟩
    · refine ⟨m, by omega, fun k => ?_⟩
      rw [hb k]
      constructor
      · rintro ⟨h1, h2⟩; exact ⟨by omega, h2⟩
      · rintro ⟨h1, h2⟩
        by_cases g : k = n
        · subst g; exact (e h2).elim
        · exact ⟨by omega, h2⟩
theorem rch_sub {net : List Int} {n : Nat} {S T : Nat → Prop} (h : ∀ i, S i → T i) : ∀ t i, Rch net n S t i → Rch net n T t i
  | 0, i, hr => h i hr
  | t + 1, i, hr => by
    rcases hr with g | ⟨j, hj, hr, ha⟩
    · exact Or.inl (rch_sub h t i g)
    · exact Or.inr ⟨j, hj, rch_sub h t j hr, ha⟩
theorem rch_from {net : List Int} {n : Nat} {S : Nat → Prop} : ∀ t i, i < n → Rch net n S t i → ∃ j, j < n ∧ S j ∧ WayTo net n j i
  | 0, i, hi, hr => ⟨i, hi, hr, WayTo.refl _ _ _⟩
  | t + 1, i, hi, hr => by
    rcases hr with g | ⟨j, hj, hr, ha⟩
    · exact rch_from t i hi g
    · obtain ⟨q, hq, hS, hw⟩ := rch_from t j hj hr
      exact ⟨q, hq, hS, hw.trans (WayTo.step hj hi ha)⟩

def Cov (net : List Int) (T x : Int) : Prop := ∀ i, i < net.length → 0 ≤ G (distRow net x) i ∧ G (distRow net x) i ≤ T
theorem cov_iff {net : List Int} {x : Int} (t : Nat) : Cov net (t : Int) x ↔ ∀ i, i < net.length → Rch net net.length (bitOf x) t i := by
  constructor
  · intro h i hi
    have := h i hi
    rw [G_distRow hi] at this
    exact (distOf_le t).1 this
  · intro h i hi
    rw [G_distRow hi]
    exact (distOf_le t).2 (h i hi)
theorem cov_mono {net : List Int} {x T U : Int} (h : Cov net T x) (hl : T ≤ U) : Cov net U x := fun i hi => ⟨(h i hi).1, Int.le_trans (h i hi).2 hl⟩
theorem bit_full {n k : Nat} (h : k < n) : bitOf ((2 : Int) ^ n - 1) k := by
  rw [full_cast]
  exact (bit_cast _ k).2 (by rw [Nat.testBit_two_pow_sub_one]; simpa using h)
theorem cov_full {net : List Int} {T : Int} (hT : 0 ≤ T) : Cov net T ((2 : Int) ^ net.length - 1) :=
  cov_mono ((cov_iff 0).2 (fun i hi => bit_full hi)) hT
open Classical in
noncomputable def lightsTo (net : List Int) (T : Int) : Nat → Int
  | 0 => 2 ^ net.length - 1
  | k + 1 => if popc (k : Int) < popc (lightsTo net T k) ∧ Cov net T (k : Int) then (k : Int) else lightsTo net T k
noncomputable def lights (net : List Int) (T : Int) : Int := lightsTo net T (2 ^ net.length)
noncomputable def lightsFor (net : List Int) (T : Int) : Int := if NetP net ∧ 0 ≤ T then lights net T else -1
noncomputable def fewestLights (net : List Int) (T : Int) : Int := if NetP net ∧ 0 ≤ T then popc (lights net T) else -1
theorem lightsTo_same {net : List Int} {T : Int} {k : Nat} (h : ¬ (popc (k : Int) < popc (lightsTo net T k) ∧ Cov net T (k : Int))) : lightsTo net T (k + 1) = lightsTo net T k := if_neg h
theorem lightsTo_new {net : List Int} {T : Int} {k : Nat} (h : popc (k : Int) < popc (lightsTo net T k) ∧ Cov net T (k : Int)) : lightsTo net T (k + 1) = (k : Int) := if_pos h
structure LightsInv (net : List Int) (T : Int) (k : Nat) (b : Int) : Prop where
  nn : 0 ≤ b
  lt : b < 2 ^ net.length
  cov : Cov net T b
  few : ∀ y : Nat, y < k → Cov net T (y : Int) → popc b ≤ popc (y : Int)
  fst : ∀ y : Nat, y < k → (y : Int) < b → Cov net T (y : Int) → popc b < popc (y : Int)
  end_ : b < k ∨ b = 2 ^ net.length - 1
theorem lightsTo_inv {net : List Int} {T : Int} (hn : net.length ≤ 6) (hT : 0 ≤ T) : ∀ k : Nat, k ≤ 2 ^ net.length → LightsInv net T k (lightsTo net T k)
  | 0, _ => by
    have h1 := pow_pos2 net.length
    exact ⟨by show (0 : Int) ≤ 2 ^ net.length - 1; omega, by show (2 : Int) ^ net.length - 1 < _; omega, cov_full hT, fun y hy => by omega, fun y hy => by omega, Or.inr rfl⟩
  | k + 1, hk => by
    have ih := lightsTo_inv hn hT k (by omega)
    have hk2 : (k : Int) < 2 ^ net.length := by rw [two_pow_cast]; omega
    by_cases h : popc (k : Int) < popc (lightsTo net T k) ∧ Cov net T (k : Int)
    · rw [lightsTo_new h]
      refine ⟨Int.natCast_nonneg _, hk2, h.2, fun y hy hc => ?_, fun y hy hb hc => ?_, Or.inl (by omega)⟩
      · by_cases e : y = k
        · rw [e]; exact Int.le_refl _
        · have := ih.few y (by omega) hc; omega
      · have := ih.few y (by omega) hc; omega
    · rw [lightsTo_same h]
      have hnot : Cov net T (k : Int) → popc (lightsTo net T k) ≤ popc (k : Int) := fun hc => by
        apply Classical.byContradiction
        intro hlt
        exact h ⟨by omega, hc⟩
      refine ⟨ih.nn, ih.lt, ih.cov, fun y hy hc => ?_, fun y hy hb hc => ?_, ?_⟩
      · by_cases e : y = k
        · subst e; exact hnot hc
        · exact ih.few y (by omega) hc
      · by_cases e : y = k
        · subst e
          rcases ih.end_ with g | g
          · omega
          · have h1 := hnot hc
            have h2 := popc_less hn (by rw [← g]; exact hb)
            rw [g] at h1
            omega
        · exact ih.fst y (by omega) hb hc
      · rcases ih.end_ with g | g
        · exact Or.inl (by omega)
        · exact Or.inr g
theorem lights_inv {net : List Int} {T : Int} (hn : net.length ≤ 6) (hT : 0 ≤ T) : LightsInv net T (2 ^ net.length) (lights net T) := lightsTo_inv hn hT _ (Nat.le_refl _)
theorem lights_pos {net : List Int} {T : Int} (hn : NetP net) (hT : 0 ≤ T) : 1 ≤ lights net T := by
  have h := lights_inv hn.2.1 hT
  apply Classical.byContradiction
  intro hlt
  have e : lights net T = 0 := by have := h.nn; omega
  have hc := h.cov 0 (by have := hn.1; omega)
  rw [G_distRow (by have := hn.1; omega), e] at hc
  rcases distOf_cases net net.length (bitOf 0) 0 with ⟨d, hd, _⟩ | ⟨_, h2⟩
  · obtain ⟨j, hj, hS, _⟩ := rch_from d 0 (by have := hn.1; omega) hd.1
    unfold bitOf at hS
    rw [Int.zero_ediv] at hS
    omega
  · omega
theorem lights_le {net : List Int} {T x : Int} (hn : net.length ≤ 6) (hT : 0 ≤ T) (h0 : 0 ≤ x) (hx : x < 2 ^ net.length) (hc : Cov net T x) : popc (lights net T) ≤ popc x := by
  obtain ⟨y, rfl⟩ := Int.eq_ofNat_of_zero_le h0
  exact (lights_inv hn hT).few y (by rw [two_pow_cast] at hx; omega) hc
theorem lights_mono {net : List Int} {T U : Int} (hn : net.length ≤ 6) (hT : 0 ≤ T) (hl : T ≤ U) : popc (lights net U) ≤ popc (lights net T) := by
  have h := lights_inv hn hT
  exact lights_le hn (by omega) h.nn h.lt (cov_mono h.cov hl)
theorem lights_zero {net : List Int} (hn : net.length ≤ 6) : popc (lights net 0) = net.length := by
  have h := lights_inv (net := net) hn (Int.le_refl 0)
  have hc := (cov_iff 0).1 h.cov
  rw [popc_n h.nn h.lt hn]
  refine (sumN_congr (fun j hj => ?_)).trans (sumN_const1 _)
  exact if_pos (hc j hj)
/-- How many parts have their least node among the first k. -/
noncomputable def partsN (net : List Int) (k : Nat) : Int := sumN (fun i => if pLeast net net.length i = i then 1 else 0) k
theorem partsN_bd (net : List Int) (k : Nat) : 0 ≤ partsN net k ∧ partsN net k ≤ k := by
  induction k with
  | zero => exact ⟨Int.le_refl _, Int.le_refl _⟩
  | succ k ih =>
    have e : partsN net (k + 1) = partsN net k + (if pLeast net net.length k = k then 1 else 0) := rfl
    rw [e]; split <;> omega
theorem parts_le {net : List Int} {T x : Int} (hn : NetP net) (h0 : 0 ≤ x) (hx : x < 2 ^ net.length) (hc : Cov net T x) : partsN net net.length ≤ popc x := by
  have hs := net_symm hn (n := net.length) rfl
  rw [popc_n h0 hx hn.2.1]
  have h1 : partsN net net.length ≤ sumN (fun i => sumN (fun j => if bitOf x j ∧ pLeast net net.length j = i then (1 : Int) else 0) net.length) net.length := by
    refine sumN_le (fun i hi => ?_)
    have hnn : ∀ j, j < net.length → (0 : Int) ≤ (if bitOf x j ∧ pLeast net net.length j = i then (1 : Int) else 0) := fun j _ => by split <;> omega
    by_cases e : pLeast net net.length i = i
    · have hci := (hc i hi).1
      rw [G_distRow hi] at hci
      rcases distOf_cases net net.length (bitOf x) i with ⟨d, hd, _⟩ | ⟨_, h2⟩
      · obtain ⟨j, hj, hS, hw⟩ := rch_from d i hi hd.1
        have hp : pLeast net net.length j = i := pLeast_eq hs hw (pLeast_self.1 e)
        have := sumN_part (f := fun j => if bitOf x j ∧ pLeast net net.length j = i then (1 : Int) else 0) hnn hj
        rw [if_pos e]
        simp only [hS, hp, and_self, if_true] at this
        exact this
      · omega
    · rw [if_neg e]
      exact sumN_nonneg hnn
  refine Int.le_trans h1 ?_
  rw [sumN_swap]
  refine Int.le_of_eq (sumN_congr (fun j hj => ?_))
  have hp := (pLeast_spec net net.length j).2.2
  by_cases e : bitOf x j
  · simp only [e, true_and, if_true]
    exact sumN_one (by omega)
  · simp only [e, false_and, if_false]
    exact sumN_zero _
theorem parts_ge {net : List Int} (hn : NetP net) : popc (lights net (net.length : Int)) ≤ partsN net net.length := by
  have hs := net_symm hn (n := net.length) rfl
  obtain ⟨m, hm, hb⟩ := set_exists (Least net net.length) net.length
  have hm2 : (m : Int) < 2 ^ net.length := by rw [two_pow_cast]; omega
  have hbit : ∀ k, bitOf (m : Int) k ↔ k < net.length ∧ Least net net.length k := fun k => (bit_cast m k).trans (hb k)
  have hc : Cov net (net.length : Int) (m : Int) := by
    refine (cov_iff net.length).2 (fun i hi => ?_)
    have h1 := pLeast_spec net net.length i
    obtain ⟨t, ht⟩ := wayTo_rch (h1.1.symm hs)
    have h2 := rch_sub (T := bitOf (m : Int)) (fun x (e : x = pLeast net net.length i) => (hbit x).2 (by rw [e]; exact ⟨by omega, h1.2.1⟩)) t i ht
    exact rch_le (rch_bound hi h2) (by omega)
  refine Int.le_trans (lights_le hn.2.1 (by omega) (Int.natCast_nonneg m) hm2 hc) ?_
  rw [popc_n (Int.natCast_nonneg m) hm2 hn.2.1]
  refine sumN_le (fun i hi => ?_)
  by_cases e : pLeast net net.length i = i
  · rw [if_pos e]; split <;> omega
  · rw [if_neg e, if_neg (fun h => e (pLeast_self.2 ((hbit i).1 h).2))]
    exact Int.le_refl _
theorem parts_lights {net : List Int} (hn : NetP net) : popc (lights net (net.length : Int)) = partsN net net.length := by
  have h := lights_inv hn.2.1 (show (0 : Int) ≤ (net.length : Int) by omega)
  exact Int.le_antisymm (parts_ge hn) (parts_le hn h.nn h.lt h.cov)
theorem cov_grow {net : List Int} {T x y : Int} (hT : 1 ≤ T) (hc : Cov net T x) (hy : ∀ k, bitOf y k ↔ (bitOf x k ∨ ∃ j, j < net.length ∧ bitOf x j ∧ adj net j k)) : Cov net (T - 1) y := by
  obtain ⟨t, rfl⟩ : ∃ t : Nat, T = ((t + 1 : Nat) : Int) := ⟨(T - 1).toNat, by omega⟩
  have h1 := (cov_iff (t + 1)).1 hc
  rw [show ((t + 1 : Nat) : Int) - 1 = (t : Int) by omega]
  exact (cov_iff t).2 (fun i hi => rch_grow (fun k h => (hy k).2 h) t i (h1 i hi))
end Go.Proofs.Ytgkjapgfldnjkaa.C
