/- Proved: the statement FnExactRingStates, for every input, without further conditions. -/
import Derived.Test.YtbbafjmfdbjkaaaPFnExactRingStatesx2
import Derived.Test.YtbbafjmfdbjkaaaBase
import Derived.Test.YtbbafjmfdbjkaaaRing
namespace Go.Proofs.Ytbbafjmfdbjkaaa.Pure
open Go.RowKit Go.Proofs.Ytbbafjmfdbjkaaa.PFnExactRingStates Go.Proofs.YtbbafjmfdbjkaaaW.PrintWords Go.Proofs.YtbbafjmfdbjkaaaW.PrintLast Go.Proofs.Ytbbafjmfdbjkaaa.B Go.Proofs.Ytbbafjmfdbjkaaa.C
set_option linter.unusedSimpArgs false
set_option linter.unusedVariables false

theorem spec_l1In_eq (a b c : Int) : spec_l1In.f a b c = some (decide (b ≤ a ∧ a ≤ c)) := by
  unfold spec_l1In.f
  by_cases h : b ≤ a <;> simp [h]

-- needs Ring
theorem spec_l8Ways_ev (m : Nat) : ∀ (s : Int), m ≤ 6 → -1000 + m ≤ s → s ≤ 1000 - m → Ev (fun k => spec_l8Ways.f k (m : Int) s) (fways m s) := by
  induction m with
  | zero =>
    intro s _ _ _
    refine Ev.step (fun k => spec_l8Ways.f.eq_2 ..) ?_
    have h0 : ((0 : Nat) : Int) = 0 := rfl
    simp only [h0, if_true]
    by_cases e : s = 0
    · have e2 : fways 0 s = 1 := by unfold fways; rw [if_pos e]
      rw [e2]
      simp only [e, if_true]; exact Ev.now _
    · have e2 : fways 0 s = 0 := by unfold fways; rw [if_neg e]
      rw [e2]
      simp only [e, if_false]; exact Ev.now _
  | succ m ih =>
    intro s h6 h1 h2
    refine Ev.step (fun k => spec_l8Ways.f.eq_2 ..) ?_
    have e1 : wrap64 (((m + 1 : Nat) : Int) - 1) = (m : Int) := by rw [w64 (by omega) (by omega)]; omega
    have e2 : wrap64 (s - 1) = s - 1 := w64 (by omega) (by omega)
    have e3 : wrap64 (s + 1) = s + 1 := w64 (by omega) (by omega)
    simp only [show ¬ ((m + 1 : Nat) : Int) = 0 by omega, if_false, e1, e2, e3]
    refine Ev.bind (ih (s - 1) (by omega) (by omega) (by omega)) ?_
    refine Ev.bind (ih s (by omega) (by omega) (by omega)) ?_
    refine Ev.bind (ih (s + 1) (by omega) (by omega) (by omega)) ?_
    have hp : (3 : Int) ^ m ≤ 729 := pow3_int (by omega)
    have b1 := ways_bd m (s - 1)
    have b2 := ways_bd m s
    have b3 := ways_bd m (s + 1)
    have e4 : fways (m + 1) s = fways m (s - 1) + fways m s + fways m (s + 1) := rfl
    refine Ev.val ?_
    rw [e4]
    generalize (3 : Int) ^ m = X at hp b1 b2 b3
    rw [w64 (n := fways m (s - 1) + fways m s) (by omega) (by omega), w64 (by omega) (by omega)]

-- needs Ring
theorem spec_RingStates_ev (a b : Int) : Ev (fun k => spec_RingStates.f k a b) (ringStates a b) := by
  unfold spec_RingStates.f ringStates
  simp only [spec_l1In_eq, Option.bind_some]
  by_cases h1 : 3 ≤ a ∧ a ≤ 6
  · have d1 : decide (3 ≤ a ∧ a ≤ 6) = true := decide_eq_true h1
    simp only [d1, if_true]
    by_cases h2 : -6 ≤ b ∧ b ≤ 6
    · have d2 : decide (-6 ≤ b ∧ b ≤ 6) = true := decide_eq_true h2
      simp only [d2, if_true]
      rw [if_pos ⟨h1.1, h1.2, h2.1, h2.2⟩]
      obtain ⟨n, rfl⟩ := Int.eq_ofNat_of_zero_le (show 0 ≤ a by omega)
      have hw : wrap64 (3 * b) = 3 * b := w64 (by omega) (by omega)
      simp only [hw]
      refine Ev.bind (spec_l8Ways_ev n (3 * b) (by omega) (by omega) (by omega)) ?_
      have hb := ways_bd n (3 * b)
      have hp : (3 : Int) ^ n ≤ 729 := pow3_int (by omega)
      refine Ev.val ?_
      have hc := cnt_ways (n := n) (w := b) (by omega) (by omega) h2.1 h2.2
      show wrap64 (3 * fways n (3 * b)) = cntW n b
      generalize (3 : Int) ^ n = X at hp hb
      rw [hc, w64 (by omega) (by omega)]
    · have d2 : decide (-6 ≤ b ∧ b ≤ 6) = false := decide_eq_false h2
      simp only [d2, Bool.false_eq_true, if_false]
      rw [if_neg (fun x => h2 x.2.2)]
      exact Ev.now _
  · have d1 : decide (3 ≤ a ∧ a ≤ 6) = false := decide_eq_false h1
    simp only [d1, Bool.false_eq_true, if_false]
    rw [if_neg (fun x => h1 ⟨x.1, x.2.1⟩)]
    exact Ev.now _

theorem impl_StateOk_l0 (a : Int) (l : List Int) (hl : l.length ≤ 1048576) : ∀ (d : Nat) (i : Nat), l.length - i = d → i ≤ l.length → (∀ j, j < i → 0 ≤ G l j ∧ G l j < a) → Ev (fun k => impl_StateOk.l0 k a l l (l.length : Int) (i : Int)) (decide (StateP a l)) := by
  intro d
  induction d with
  | zero =>
    intro i hd hi hj
    refine Ev.step (fun k => impl_StateOk.l0.eq_2 ..) ?_
    obtain rfl : i = l.length := by omega
    by_cases h3 : 3 ≤ a
    · by_cases h5 : a ≤ 5
      · by_cases h1 : 1 ≤ l.length
        · simp (disch := omega) only [if_pos, if_neg, w64, rdn, rd0, tn, sc, Option.bind_some, ↓reduceIte, Bool.false_eq_true, Bool.true_eq_false]
          refine Ev.val ?_
          rw [decide_eq_decide]
          unfold StateP
          constructor
          · intro e; exact ⟨h3, h5, h1, by omega, hj⟩
          · intro e; have := e.2.2.2.1; omega
        · simp (disch := omega) only [if_pos, if_neg, w64, rdn, rd0, tn, sc, Option.bind_some, ↓reduceIte, Bool.false_eq_true, Bool.true_eq_false]
          refine Ev.val ?_
          have : ¬ StateP a l := fun p => h1 p.2.2.1
          simp [this]
      · simp (disch := omega) only [if_pos, if_neg, w64, rdn, rd0, tn, sc, Option.bind_some, ↓reduceIte, Bool.false_eq_true, Bool.true_eq_false]
        refine Ev.val ?_
        have : ¬ StateP a l := fun p => h5 p.2.1
        simp [this]
    · simp (disch := omega) only [if_pos, if_neg, w64, rdn, rd0, tn, sc, Option.bind_some, ↓reduceIte, Bool.false_eq_true, Bool.true_eq_false]
      refine Ev.val ?_
      have : ¬ StateP a l := fun p => h3 p.1
      simp [this]
  | succ d ih =>
    intro i hd hi hj
    refine Ev.step (fun k => impl_StateOk.l0.eq_2 ..) ?_
    by_cases e0 : G l i < 0
    · simp (disch := omega) only [if_pos, if_neg, w64, rdn, rd0, tn, sc, Option.bind_some, ↓reduceIte, Bool.false_eq_true, Bool.true_eq_false]
      refine Ev.val ?_
      have : ¬ StateP a l := fun p => by have := p.2.2.2.2 i (by omega); omega
      simp [this]
    · by_cases e1 : G l i ≥ a
      · simp (disch := omega) only [if_pos, if_neg, w64, rdn, rd0, tn, sc, Option.bind_some, ↓reduceIte, Bool.false_eq_true, Bool.true_eq_false]
        refine Ev.val ?_
        have : ¬ StateP a l := fun p => by have := p.2.2.2.2 i (by omega); omega
        simp [this]
      · simp (disch := omega) only [if_pos, if_neg, w64, rdn, rd0, tn, sc, Option.bind_some, ↓reduceIte, Bool.false_eq_true, Bool.true_eq_false]
        refine ih (i + 1) (by omega) (by omega) ?_
        intro j hji
        by_cases e' : j = i
        · subst e'; omega
        · exact hj j (by omega)
theorem impl_StateOk_ev (a : Int) (l : List Int) (hl : l.length ≤ 1048576) : Ev (fun k => impl_StateOk.f k a l) (decide (StateP a l)) := by
  unfold impl_StateOk.f
  exact impl_StateOk_l0 a l hl _ 0 rfl (by omega) (fun j h => by omega)

theorem impl_rise_eq (l : List Int) (hl : ∀ i, i < l.length → 0 ≤ G l i ∧ G l i < 3) {i j : Nat} (hi : i < l.length) (hj : j < l.length) : impl_rise.f l (i : Int) (j : Int) = some (rise (G l i) (G l j)) := by
  have ha := hl i hi
  have hb := hl j hj
  unfold impl_rise.f
  have h1 : wrap64 (G l j - G l i) = G l j - G l i := w64 (by omega) (by omega)
  have h2 : wrap64 (G l j - G l i + 3) = G l j - G l i + 3 := w64 (by omega) (by omega)
  have h3 : Int.tmod (G l j - G l i + 3) 3 = (G l j - G l i + 3) % 3 := tmod_nn (by omega)
  simp only [rdn, h1, h2, h3]
  unfold rise
  by_cases e1 : (G l j - G l i + 3) % 3 = 1
  · simp (disch := omega) only [if_pos, if_neg, w64, rdn, rd0, tn, sc, Option.bind_some, ↓reduceIte, Bool.false_eq_true, Bool.true_eq_false]
    congr 1; omega
  · by_cases e2 : (G l j - G l i + 3) % 3 = 2
    · simp (disch := omega) only [if_pos, if_neg, w64, rdn, rd0, tn, sc, Option.bind_some, ↓reduceIte, Bool.false_eq_true, Bool.true_eq_false]
      congr 1; omega
    · simp (disch := omega) only [if_pos, if_neg, w64, rdn, rd0, tn, sc, Option.bind_some, ↓reduceIte, Bool.false_eq_true, Bool.true_eq_false]
      congr 1; omega

theorem impl_FrontRow_l0 (l : List Int) (hs : StateP 3 l) (h3 : 3 ≤ l.length) : ∀ (d : Nat) (i : Nat), l.length - i = d → i ≤ l.length →
    Ev (fun k => impl_FrontRow.l0 k l (mk i (fun i => rise (G l i) (G l ((i + 1) % l.length)))) (l.length : Int) (i : Int)) (mk l.length (fun i => rise (G l i) (G l ((i + 1) % l.length)))) := by
  intro d
  have h6 := hs.2.2.2.1
  induction d with
  | zero =>
    intro i hd hi
    refine Ev.step (fun k => impl_FrontRow.l0.eq_2 ..) ?_
    obtain rfl : i = l.length := by omega
    simp (disch := omega) only [if_pos, if_neg, w64, rdn, rd0, tn, sc, Option.bind_some, ↓reduceIte, Bool.false_eq_true, Bool.true_eq_false]
    exact Ev.now _
  | succ d ih =>
    intro i hd hi
    refine Ev.step (fun k => impl_FrontRow.l0.eq_2 ..) ?_
    have h := ih (i + 1) (by omega) (by omega)
    rw [mk_succ] at h
    have hm : (i + 1) % l.length < l.length := Nat.mod_lt _ (by omega)
    have e1 : Int.tmod (((i + 1 : Nat) : Int)) (l.length : Int) = (((i + 1) % l.length : Nat) : Int) := by rw [tmod_nn (by omega)]; rfl
    have er := impl_rise_eq l hs.2.2.2.2 (show i < l.length by omega) hm
    simp (disch := omega) only [if_pos, if_neg, w64, rdn, rd0, tn, sc, Option.bind_some, ↓reduceIte, Bool.false_eq_true, Bool.true_eq_false]
    simp only [e1, mk_length, er, Option.bind_some]
    simp (disch := omega) only [if_pos, if_neg, w64, rdn, rd0, tn, sc, Option.bind_some, ↓reduceIte, Bool.false_eq_true, Bool.true_eq_false]
    exact h
theorem impl_FrontRow_ev (l : List Int) (hl : l.length ≤ 1048576) : Ev (fun k => impl_FrontRow.f k l) (frontRow l) := by
  unfold impl_FrontRow.f frontRow
  refine Ev.bind (impl_StateOk_ev 3 l (by omega)) ?_
  by_cases hs : StateP 3 l
  · simp only [hs, decide_true]
    by_cases h3 : 3 ≤ l.length
    · have e : decide ((l.length : Int) < 3) = false := by simp; omega
      simp only [e]
      simp (disch := omega) only [if_pos, if_neg, w64, rdn, rd0, tn, sc, Option.bind_some, ↓reduceIte, Bool.false_eq_true, Bool.true_eq_false]
      refine Ev.step (fun k => impl_FrontRow.j0.eq_2 ..) ?_
      simp (disch := omega) only [if_pos, if_neg, w64, rdn, rd0, tn, sc, Option.bind_some, ↓reduceIte, Bool.false_eq_true, Bool.true_eq_false]
      rw [if_pos ⟨trivial, h3⟩]
      exact impl_FrontRow_l0 l hs h3 _ 0 rfl (by omega)
    · have e : decide ((l.length : Int) < 3) = true := by simp; omega
      simp only [e]
      simp (disch := omega) only [if_pos, if_neg, w64, rdn, rd0, tn, sc, Option.bind_some, ↓reduceIte, Bool.false_eq_true, Bool.true_eq_false]
      refine Ev.step (fun k => impl_FrontRow.j0.eq_2 ..) ?_
      simp (disch := omega) only [if_pos, if_neg, w64, rdn, rd0, tn, sc, Option.bind_some, ↓reduceIte, Bool.false_eq_true, Bool.true_eq_false]
      exact Ev.now _
  · simp only [hs, decide_false]
    simp (disch := omega) only [if_pos, if_neg, w64, rdn, rd0, tn, sc, Option.bind_some, ↓reduceIte, Bool.false_eq_true, Bool.true_eq_false]
    refine Ev.step (fun k => impl_FrontRow.j0.eq_2 ..) ?_
    simp (disch := omega) only [if_pos, if_neg, w64, rdn, rd0, tn, sc, Option.bind_some, ↓reduceIte, Bool.false_eq_true, Bool.true_eq_false]
    exact Ev.now _

-- needs Ring
def ringWinding (s : List Int) : Int × Bool := if StateP 3 s ∧ 3 ≤ s.length then (Int.tdiv (sumN (fun i => rise (G s i) (G s ((i + 1) % s.length))) s.length) 3, true) else (0, false)
theorem ring_sum_bd (f : Nat → Int) (h : ∀ i, -1 ≤ f i ∧ f i ≤ 1) (n : Nat) : -(n : Int) ≤ sumN f n ∧ sumN f n ≤ n := by
  have := sumN_bound (f := f) (n := n) (b := 1) (fun i _ => h i)
  omega
theorem impl_RingWinding_l0 (f : Nat → Int) (hf : ∀ i, -1 ≤ f i ∧ f i ≤ 1) (n : Nat) (h6 : n ≤ 6) : ∀ (d i : Nat), n - i = d → i ≤ n →
    Ev (fun k => impl_RingWinding.l0 k (sumN f i) (mk n f) (n : Int) (i : Int)) (Int.tdiv (sumN f n) 3, true) := by
  intro d
  have hL : (mk n f).length = n := mk_length _ _
  have hb := ring_sum_bd f hf
  induction d with
  | zero =>
    intro i hd hi
    have ei : i = n := by omega
    subst ei
    refine Ev.step (fun k => impl_RingWinding.l0.eq_2 ..) ?_
    have h1 := hb i
    have hw : wrap64 (Int.tdiv (sumN f i) 3) = Int.tdiv (sumN f i) 3 := by
      have : -10 ≤ Int.tdiv (sumN f i) 3 ∧ Int.tdiv (sumN f i) 3 ≤ 10 := by
        by_cases e : 0 ≤ sumN f i
        · rw [Int.tdiv_eq_ediv_of_nonneg e]; omega
        · have h2 : Int.tdiv (sumN f i) 3 = - Int.tdiv (- sumN f i) 3 := by rw [Int.neg_tdiv]; omega
          rw [h2, Int.tdiv_eq_ediv_of_nonneg (by omega)]; omega
      exact w64 (by omega) (by omega)
    simp only [hw]
    clear hw
    simp (disch := omega) only [if_pos, if_neg, w64, rdn, rd0, tn, sc, Option.bind_some, ↓reduceIte, Bool.false_eq_true, Bool.true_eq_false]
    exact Ev.now _
  | succ d ih =>
    intro i hd hi
    refine Ev.step (fun k => impl_RingWinding.l0.eq_2 ..) ?_
    have hn := ih (i + 1) (by omega) (by omega)
    have h1 := hb i
    have h2 := hf i
    have hg := G_mk f (show i < n by omega)
    have hw : wrap64 (sumN f i + f i) = sumN f (i + 1) := w64 (by omega) (by omega)
    simp only [rdn, hg, hw]
    clear hw hg
    simp (disch := omega) only [if_pos, if_neg, w64, rdn, rd0, tn, sc, Option.bind_some, ↓reduceIte, Bool.false_eq_true, Bool.true_eq_false]
    exact hn
theorem impl_RingWinding_ev (s : List Int) (hs : s.length ≤ 1048576) : Ev (fun k => impl_RingWinding.f k s) (ringWinding s) := by
  unfold impl_RingWinding.f
  refine Ev.bind (impl_FrontRow_ev s hs) ?_
  by_cases h : StateP 3 s ∧ 3 ≤ s.length
  · have e : frontRow s = mk s.length (fun i => rise (G s i) (G s ((i + 1) % s.length))) := by unfold frontRow; first | rw [if_pos h] | simp [h]
    have e2 : ringWinding s = (Int.tdiv (sumN (fun i => rise (G s i) (G s ((i + 1) % s.length))) s.length) 3, true) := if_pos h
    rw [e, e2]
    have h6 := h.1.2.2.2.1
    have h3 := h.2
    simp only [mk_length, show 0 < (s.length : Int) by omega, if_true]
    exact impl_RingWinding_l0 _ (fun i => by unfold rise; omega) s.length h6 _ 0 rfl (by omega)
  · have e : frontRow s = [] := by unfold frontRow; first | rw [if_neg h] | simp [h]
    have e2 : ringWinding s = (0, false) := if_neg h
    rw [e, e2]
    have h0 : ([] : List Int).length = 0 := rfl
    simp only [h0]
    simp (disch := omega) only [if_pos, if_neg, w64, rdn, rd0, tn, sc, Option.bind_some, ↓reduceIte, Bool.false_eq_true, Bool.true_eq_false]
    exact Ev.now _

-- needs Ring
def stateOf (n num : Nat) : List Int := if num < 3 ^ n then stW n num else []
theorem impl_StateOf_l0 (n num : Nat) (h6 : n ≤ 6) (hnum : num ≤ 1000000) : ∀ (d i : Nat), n - i = d → i ≤ n →
    Ev (fun k => impl_StateOf.l0 k 3 ((num / 3 ^ i : Nat) : Int) (mk i (dig3 num)) (n : Int) (i : Int)) (stateOf n num) := by
  intro d
  induction d with
  | zero =>
    intro i hd hi
    have ei : i = n := by omega
    subst ei
    refine Ev.step (fun k => impl_StateOf.l0.eq_2 ..) ?_
    have hp : 0 < 3 ^ i := Nat.pow_pos (by decide)
    by_cases e : num < 3 ^ i
    · have h0 : num / 3 ^ i = 0 := Nat.div_eq_of_lt e
      have hs : stateOf i num = mk i (dig3 num) := if_pos e
      rw [hs, h0]
      simp (disch := omega) only [if_pos, if_neg, w64, rdn, rd0, tn, sc, Option.bind_some, ↓reduceIte, Bool.false_eq_true, Bool.true_eq_false]
      exact Ev.now _
    · have h0 : 0 < num / 3 ^ i := Nat.div_pos (by omega) hp
      have hs : stateOf i num = [] := if_neg e
      rw [hs]
      generalize num / 3 ^ i = q at h0
      simp (disch := omega) only [if_pos, if_neg, w64, rdn, rd0, tn, sc, Option.bind_some, ↓reduceIte, Bool.false_eq_true, Bool.true_eq_false]
      exact Ev.now _
  | succ d ih =>
    intro i hd hi
    refine Ev.step (fun k => impl_StateOf.l0.eq_2 ..) ?_
    have hn := ih (i + 1) (by omega) (by omega)
    rw [mk_succ] at hn
    have hL : (mk i (dig3 num)).length = i := mk_length _ _
    have hq : num / 3 ^ i ≤ 1000000 := Nat.le_trans (Nat.div_le_self _ _) hnum
    have hq1 : dig3 num i = ((num / 3 ^ i % 3 : Nat) : Int) := rfl
    have hq2 : num / 3 ^ (i + 1) = num / 3 ^ i / 3 := by rw [Nat.pow_succ, ← Nat.div_div_eq_div_mul]
    rw [hq2] at hn
    have e1 : Int.tmod ((num / 3 ^ i : Nat) : Int) 3 = dig3 num i := by
      rw [hq1]
      generalize num / 3 ^ i = q at hq
      rw [tmod_nn (by omega)]; omega
    have e2 : wrap64 (Int.tdiv ((num / 3 ^ i : Nat) : Int) 3) = ((num / 3 ^ i / 3 : Nat) : Int) := by
      generalize num / 3 ^ i = q at hq
      rw [tdiv_nn (by omega), w64 (by omega) (by omega)]; omega
    clear hq1 hq2
    simp only [e1, e2]
    clear e1 e2
    simp only [show ¬ (3 : Int) = 0 by decide, if_false]
    simp (disch := omega) only [if_pos, if_neg, w64, rdn, rd0, tn, sc, Option.bind_some, ↓reduceIte, Bool.false_eq_true, Bool.true_eq_false]
    exact hn
theorem impl_StateOf_ev (n num : Nat) (h1 : 1 ≤ n) (h6 : n ≤ 6) (hnum : num ≤ 1000000) : Ev (fun k => impl_StateOf.f k (n : Int) 3 (num : Int)) (stateOf n num) := by
  unfold impl_StateOf.f
  have e : decide ((num : Int) < 0) = false := decide_eq_false (by omega)
  simp only [e, show ¬ (n : Int) < 1 by omega, show ¬ (n : Int) > 6 by omega, show ¬ (3 : Int) < 3 by decide, show ¬ (3 : Int) > 5 by decide, if_false]
  refine Ev.step (fun k => impl_StateOf.j0.eq_2 ..) ?_
  simp only [Bool.false_eq_true, if_false]
  have := impl_StateOf_l0 n num h6 hnum _ 0 rfl (by omega)
  rw [mk_zero] at this
  simpa using this

-- needs Ring
theorem stW_ok {n num : Nat} (h1 : 1 ≤ n) (h6 : n ≤ 6) : StateP 3 (stW n num) := by
  have hl : (stW n num).length = n := mk_length _ _
  refine ⟨by omega, by omega, by omega, by omega, fun i hi => ?_⟩
  rw [hl] at hi
  have e : G (stW n num) i = dig3 num i := G_mk _ hi
  rw [e]; unfold dig3; omega
theorem stW_wind {n num : Nat} (h3 : 3 ≤ n) (h6 : n ≤ 6) : ringWinding (stW n num) = (wnd n num, true) := by
  have hl : (stW n num).length = n := mk_length _ _
  unfold ringWinding
  rw [if_pos ⟨stW_ok (by omega) h6, by omega⟩, hl]
  unfold wnd
  rw [sumN_congr (g := fun i => rise (dig3 num i) (dig3 num ((i + 1) % n))) (fun i hi => by
    have e1 : G (stW n num) i = dig3 num i := G_mk _ hi
    have e2 : G (stW n num) ((i + 1) % n) = dig3 num ((i + 1) % n) := G_mk _ (Nat.mod_lt _ (by omega))
    rw [e1, e2])]
theorem impl_RingStates_l0 (n : Nat) (w : Int) (h3 : 3 ≤ n) (h6 : n ≤ 6) : ∀ (d num : Nat), 3 ^ n - num = d → num ≤ 3 ^ n →
    Ev (fun k => impl_RingStates.l0 k (n : Int) w (num : Int) (countN (wnd n) w num)) (cntW n w) := by
  intro d
  have hp := pow3_le h6
  induction d with
  | zero =>
    intro num hd hi
    have ei : num = 3 ^ n := by omega
    have hb := countN_bound (wnd n) w num
    refine Ev.step (fun k => impl_RingStates.l0.eq_2 ..) ?_
    simp only [show 0 ≤ (num : Int) ∧ (num : Int) < 1000000 ∧ 0 ≤ countN (wnd n) w num ∧ countN (wnd n) w num < 1000000 from ⟨by omega, by omega, by omega, by omega⟩, and_self, if_true]
    refine Ev.bind (impl_StateOf_ev n num (by omega) h6 (by omega)) ?_
    have e : stateOf n num = [] := if_neg (by omega)
    have h0 : ([] : List Int).length = 0 := rfl
    rw [e]
    simp only [h0, if_true]
    rw [ei]
    exact Ev.now _
  | succ d ih =>
    intro num hd hi
    have hb := countN_bound (wnd n) w num
    have hn := ih (num + 1) (by omega) (by omega)
    refine Ev.step (fun k => impl_RingStates.l0.eq_2 ..) ?_
    simp only [show 0 ≤ (num : Int) ∧ (num : Int) < 1000000 ∧ 0 ≤ countN (wnd n) w num ∧ countN (wnd n) w num < 1000000 from ⟨by omega, by omega, by omega, by omega⟩, and_self, if_true]
    refine Ev.bind (impl_StateOf_ev n num (by omega) h6 (by omega)) ?_
    have e : stateOf n num = stW n num := if_pos (by omega)
    have hl : (stW n num).length = n := mk_length _ _
    rw [e]
    simp only [hl, show ¬ n = 0 by omega, if_false]
    refine Ev.bind (impl_RingWinding_ev _ (by omega)) ?_
    rw [stW_wind h3 h6]
    have hc : countN (wnd n) w (num + 1) = if wnd n num = w then countN (wnd n) w num + 1 else countN (wnd n) w num := by
      simp only [countN]; split <;> omega
    rw [hc] at hn
    exact hn
theorem impl_RingStates_ev (a b : Int) : Ev (fun k => impl_RingStates.f k a b) (ringStates a b) := by
  unfold impl_RingStates.f ringStates
  by_cases h1 : a < 3
  · simp only [h1, if_true]
    rw [if_neg (by omega)]
    exact Ev.now _
  · by_cases h2 : a > 6
    · simp only [h1, h2, if_true, if_false]
      rw [if_neg (by omega)]
      exact Ev.now _
    · by_cases h3 : b < -6
      · simp only [h1, h2, h3, if_true, if_false]
        rw [if_neg (by omega)]
        exact Ev.now _
      · by_cases h4 : b > 6
        · simp only [h1, h2, h3, h4, if_true, if_false]
          rw [if_neg (by omega)]
          exact Ev.now _
        · simp only [h1, h2, h3, h4, if_false]
          rw [if_pos (by omega)]
          obtain ⟨n, rfl⟩ := Int.eq_ofNat_of_zero_le (show 0 ≤ a by omega)
          exact impl_RingStates_l0 n b (by omega) (by omega) _ 0 rfl (Nat.zero_le _)

-- needs Ring
theorem FnExactRingStates : laws_FnExactRingStates.Pure := by
  intro a b _ _
  refine Ev.rounds (r := true) ?_
  unfold laws_FnExactRingStates.f
  refine Ev.bind (spec_RingStates_ev a b) ?_
  refine Ev.bind (impl_RingStates_ev a b) ?_
  simp only [if_true]
  exact Ev.now _

end Go.Proofs.Ytbbafjmfdbjkaaa.Pure
