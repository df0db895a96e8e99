/- Proved: the statement FnExactRingWinding, for every input, without further conditions. -/
import Derived.Test.YtkofidpgbmajdaaPFnExactRingWindingx3
import Derived.Test.YtkofidpgbmajdaaBase
import Derived.Test.YtkofidpgbmajdaaRing
namespace Go.Proofs.Ytkofidpgbmajdaa.Pure
open Go.RowKit Go.Proofs.Ytkofidpgbmajdaa.PFnExactRingWinding Go.Proofs.YtkofidpgbmajdaaW.PrintWords Go.Proofs.YtkofidpgbmajdaaW.PrintLast Go.Proofs.Ytkofidpgbmajdaa.B Go.Proofs.Ytkofidpgbmajdaa.C
set_option linter.unusedSimpArgs false
set_option linter.unusedVariables false

theorem spec_l6Rise_eq (a b : Int) (ha : 0 ≤ a ∧ a < 3) (hb : 0 ≤ b ∧ b < 3) : spec_l6Rise.f a b = some (rise a b) := by
  unfold spec_l6Rise.f rise
  have h1 : wrap64 (b - a) = b - a := w64 (by omega) (by omega)
  have h2 : wrap64 (b - a + 3) = b - a + 3 := w64 (by omega) (by omega)
  have h3 : wrap64 (b - a + 3 + 1) = b - a + 4 := by rw [w64 (by omega) (by omega)]; omega
  rw [h1, h2, h3, tmod_nn (by omega), w64 (by omega) (by omega)]

theorem spec_l1In_eq (a b c : Int) : spec_l1In.f a b c = some (decide (b ≤ a ∧ a ≤ c)) := by
  unfold spec_l1In.f
  by_cases h : b ≤ a <;> simp [h]

theorem spec_StateOk_l0 (a : Int) (l : List Int) (hl : l.length ≤ 1048576) : ∀ (d : Nat) (i : Nat), l.length - i = d → i ≤ l.length → (∀ j, j < i → 0 ≤ G l j ∧ G l j < a) → Ev (fun k => spec_StateOk.l0 k a l (i : Int)) (decide (StateP a l)) := by
  intro d
  induction d with
  | zero =>
    intro i hd hi hj
    refine Ev.step (fun k => spec_StateOk.l0.eq_2 ..) ?_
    simp only [spec_l1In_eq, Option.bind_some]
    obtain rfl : i = l.length := by omega
    by_cases h : 3 ≤ a ∧ a ≤ 5
    · simp only [h, and_self, decide_true]
      simp (disch := omega) only [if_pos, if_neg, w64, rdn, rd0, tn, sc, Option.bind_some, ↓reduceIte, Bool.false_eq_true, Bool.true_eq_false]
      refine Ev.val ?_
      rw [decide_eq_decide]
      unfold StateP
      constructor
      · intro e; exact ⟨h.1, h.2, by omega, by omega, hj⟩
      · intro e; have := e.2.2.1; have := e.2.2.2.1; omega
    · simp only [h, decide_false]
      simp (disch := omega) only [if_pos, if_neg, w64, rdn, rd0, tn, sc, Option.bind_some, ↓reduceIte, Bool.false_eq_true, Bool.true_eq_false]
      refine Ev.val ?_
      have : ¬ StateP a l := fun p => h ⟨p.1, p.2.1⟩
      simp [this]
  | succ d ih =>
    intro i hd hi hj
    refine Ev.step (fun k => spec_StateOk.l0.eq_2 ..) ?_
    by_cases e0 : G l i < 0
    · simp (disch := omega) only [if_pos, if_neg, w64, rdn, rd0, tn, sc, Option.bind_some, ↓reduceIte, Bool.false_eq_true, Bool.true_eq_false]
      refine Ev.val ?_
      have : ¬ StateP a l := fun p => by have := p.2.2.2.2 i (by omega); omega
      simp [this]
    · by_cases e1 : G l i ≥ a
      · simp (disch := omega) only [if_pos, if_neg, w64, rdn, rd0, tn, sc, Option.bind_some, ↓reduceIte, Bool.false_eq_true, Bool.true_eq_false]
        refine Ev.val ?_
        have : ¬ StateP a l := fun p => by have := p.2.2.2.2 i (by omega); omega
        simp [this]
      · simp (disch := omega) only [if_pos, if_neg, w64, rdn, rd0, tn, sc, Option.bind_some, ↓reduceIte, Bool.false_eq_true, Bool.true_eq_false]
        refine ih (i + 1) (by omega) (by omega) ?_
        intro j hji
        by_cases e' : j = i
        · subst e'; omega
        · exact hj j (by omega)
theorem spec_StateOk_ev (a : Int) (l : List Int) (hl : l.length ≤ 1048576) : Ev (fun k => spec_StateOk.f k a l) (decide (StateP a l)) := by
  unfold spec_StateOk.f
  exact spec_StateOk_l0 a l hl _ 0 rfl (by omega) (fun j h => by omega)

theorem spec_FrontRow_l0 (l : List Int) (hs : StateP 3 l) (h3 : 3 ≤ l.length) : ∀ (d : Nat) (i : Nat), l.length - i = d → i ≤ l.length →
    Ev (fun k => spec_FrontRow.l0 k l (mk i (fun i => rise (G l i) (G l ((i + 1) % l.length)))) (i : Int)) (mk l.length (fun i => rise (G l i) (G l ((i + 1) % l.length)))) := by
  intro d
  have h6 := hs.2.2.2.1
  induction d with
  | zero =>
    intro i hd hi
    refine Ev.step (fun k => spec_FrontRow.l0.eq_2 ..) ?_
    obtain rfl : i = l.length := by omega
    simp (disch := omega) only [if_pos, if_neg, w64, rdn, rd0, tn, sc, Option.bind_some, ↓reduceIte, Bool.false_eq_true, Bool.true_eq_false]
    exact Ev.now _
  | succ d ih =>
    intro i hd hi
    refine Ev.step (fun k => spec_FrontRow.l0.eq_2 ..) ?_
    have h := ih (i + 1) (by omega) (by omega)
    rw [mk_succ] at h
    have hm : (i + 1) % l.length < l.length := Nat.mod_lt _ (by omega)
    have e1 : Int.tmod (((i + 1 : Nat) : Int)) (l.length : Int) = (((i + 1) % l.length : Nat) : Int) := by rw [tmod_nn (by omega)]; rfl
    have er := spec_l6Rise_eq _ _ (hs.2.2.2.2 i (by omega)) (hs.2.2.2.2 ((i + 1) % l.length) hm)
    simp (disch := omega) only [if_pos, if_neg, w64, rdn, rd0, tn, sc, Option.bind_some, ↓reduceIte, Bool.false_eq_true, Bool.true_eq_false]
    refine Ev.bind (spec_StateOk_ev 3 l (by omega)) ?_
    simp only [hs, decide_true, e1, mk_length, rdn, er, Option.bind_some]
    simp (disch := omega) only [if_pos, if_neg, w64, rdn, rd0, tn, sc, Option.bind_some, ↓reduceIte, Bool.false_eq_true, Bool.true_eq_false]
    exact h
theorem spec_FrontRow_ev (l : List Int) (hl : l.length ≤ 1048576) : Ev (fun k => spec_FrontRow.f k l) (frontRow l) := by
  unfold spec_FrontRow.f frontRow
  by_cases hs : StateP 3 l
  · by_cases h3 : 3 ≤ l.length
    · rw [if_pos ⟨hs, h3⟩]
      exact spec_FrontRow_l0 l hs h3 _ 0 rfl (by omega)
    · rw [if_neg (by omega)]
      have := hs.2.2.1
      refine Ev.step (fun k => spec_FrontRow.l0.eq_2 ..) ?_
      simp (disch := omega) only [if_pos, if_neg, w64, rdn, rd0, tn, sc, Option.bind_some, ↓reduceIte, Bool.false_eq_true, Bool.true_eq_false]
      refine Ev.bind (spec_StateOk_ev 3 l (by omega)) ?_
      simp only [hs, decide_true]
      simp (disch := omega) only [if_pos, if_neg, w64, rdn, rd0, tn, sc, Option.bind_some, ↓reduceIte, Bool.false_eq_true, Bool.true_eq_false]
      exact Ev.now _
  · rw [if_neg (fun h => hs h.1)]
    refine Ev.step (fun k => spec_FrontRow.l0.eq_2 ..) ?_
    by_cases h0 : 0 < l.length
    · simp (disch := omega) only [if_pos, if_neg, w64, rdn, rd0, tn, sc, Option.bind_some, ↓reduceIte, Bool.false_eq_true, Bool.true_eq_false]
      refine Ev.bind (spec_StateOk_ev 3 l (by omega)) ?_
      simp only [hs, decide_false]
      simp (disch := omega) only [if_pos, if_neg, w64, rdn, rd0, tn, sc, Option.bind_some, ↓reduceIte, Bool.false_eq_true, Bool.true_eq_false]
      exact Ev.now _
    · simp (disch := omega) only [if_pos, if_neg, w64, rdn, rd0, tn, sc, Option.bind_some, ↓reduceIte, Bool.false_eq_true, Bool.true_eq_false]
      exact Ev.now _
theorem frontRow_length (l : List Int) : (frontRow l).length ≤ 6 := by
  unfold frontRow
  split
  · rename_i h; rw [mk_length]; exact h.1.2.2.2.1
  · simp

-- needs Ring
theorem spec_RingWinding_l0 (f : Nat → Int) (hf : ∀ i, -1 ≤ f i ∧ f i ≤ 1) (n : Nat) (h6 : n ≤ 6) : ∀ (d i : Nat), n - i = d → i ≤ n →
    Ev (fun k => spec_RingWinding.l0 k (mk n f) (sumN f i) (i : Int)) (Int.tdiv (sumN f n) 3, decide ((n : Int) > 0)) := by
  intro d
  have hL : (mk n f).length = n := mk_length _ _
  have hb := ring_sum_bd f hf
  induction d with
  | zero =>
    intro i hd hi
    have ei : i = n := by omega
    subst ei
    refine Ev.step (fun k => spec_RingWinding.l0.eq_2 ..) ?_
    have h1 := hb i
    have h2 := ring_div_bd (x := sumN f i) (by omega) (by omega)
    have e0 : ¬ ((i : Int) < (i : Int)) := by omega
    have d1 : -9223372036854775808 ≤ Int.tdiv (sumN f i) 3 := by omega
    have d2 : Int.tdiv (sumN f i) 3 ≤ 9223372036854775807 := by omega
    have hw : wrap64 (Int.tdiv (sumN f i) 3) = Int.tdiv (sumN f i) 3 := w64 d1 d2
    simp only [hw, hL, e0, if_false]
    exact Ev.now _
  | succ d ih =>
    intro i hd hi
    refine Ev.step (fun k => spec_RingWinding.l0.eq_2 ..) ?_
    have hn := ih (i + 1) (by omega) (by omega)
    have h1 := hb i
    have h2 := hf i
    have hg := G_mk f (show i < n by omega)
    have c1 : (i : Int) < (n : Int) := by omega
    have c2 : 0 ≤ (i : Int) := by omega
    have d1 : -9223372036854775808 ≤ sumN f i + f i := by omega
    have d2 : sumN f i + f i ≤ 9223372036854775807 := by omega
    have d3 : -9223372036854775808 ≤ (i : Int) + 1 := by omega
    have d4 : (i : Int) + 1 ≤ 9223372036854775807 := by omega
    have hw : wrap64 (sumN f i + f i) = sumN f (i + 1) := w64 d1 d2
    have hw1 : wrap64 ((i : Int) + 1) = ((i + 1 : Nat) : Int) := w64 d3 d4
    simp only [hL, c1, c2, if_true, rdn, hg, hw, hw1]
    exact hn
theorem spec_RingWinding_ev (s : List Int) (hs : s.length ≤ 1048576) : Ev (fun k => spec_RingWinding.f k s) (ringWinding s) := by
  unfold spec_RingWinding.f
  refine Ev.bind (spec_FrontRow_ev s hs) ?_
  by_cases h : StateP 3 s ∧ 3 ≤ s.length
  · have e : frontRow s = mk s.length (fun i => rise (G s i) (G s ((i + 1) % s.length))) := by unfold frontRow; first | rw [if_pos h] | simp [h]
    have h6 := h.1.2.2.2.1
    have h3 := h.2
    have e2 : ringWinding s = (Int.tdiv (sumN (fun i => rise (G s i) (G s ((i + 1) % s.length))) s.length) 3, decide ((s.length : Int) > 0)) := by
      have hd : decide ((s.length : Int) > 0) = true := decide_eq_true (by omega)
      rw [hd]
      exact if_pos h
    rw [e, e2]
    exact spec_RingWinding_l0 _ (fun i => by unfold rise; omega) s.length h6 _ 0 rfl (by omega)
  · have e : frontRow s = [] := by unfold frontRow; first | rw [if_neg h] | simp [h]
    have e2 : ringWinding s = (0, false) := if_neg h
    rw [e, e2]
    refine Ev.step (fun k => spec_RingWinding.l0.eq_2 ..) ?_
    have e0 : ¬ ((0 : Int) < (([] : List Int).length : Int)) := by decide
    have hw : wrap64 (Int.tdiv 0 3) = 0 := w64 (n := Int.tdiv 0 3) (by decide) (by decide)
    simp only [e0, if_false, hw]
    exact Ev.val rfl

theorem laws_toIntS_l0 (l : List Int) (hl : l.length ≤ 1048576) : ∀ (d : Nat) (x : List Int) (i : Nat), l.length - i = d → i ≤ l.length → x.length = l.length → (∀ j, j < i → G x j = G l j) → Ev (fun k => laws_toIntS.l0 k l x (i : Int)) l := by
  intro d
  induction d with
  | zero =>
    intro x i hd hi hx hj
    refine Ev.step (fun k => laws_toIntS.l0.eq_2 ..) ?_
    simp (disch := omega) only [if_pos, if_neg, w64, rdn, rd0, tn, sc, Option.bind_some, ↓reduceIte, Bool.false_eq_true, Bool.true_eq_false]
    exact Ev.val (ext hx (fun j h => hj j (by omega)))
  | succ d ih =>
    intro x i hd hi hx hj
    refine Ev.step (fun k => laws_toIntS.l0.eq_2 ..) ?_
    simp (disch := omega) only [if_pos, if_neg, w64, rdn, rd0, tn, sc, Option.bind_some, ↓reduceIte, Bool.false_eq_true, Bool.true_eq_false]
    refine ih _ _ (by omega) (by omega) (by simp [hx]) ?_
    intro j hji
    by_cases e : j = i
    · subst e; rw [G_set_self _ (by omega)]
    · rw [G_set_ne _ e]; exact hj j (by omega)
theorem laws_toIntS_ev (l : List Int) (hl : l.length ≤ 1048576) : Ev (fun k => laws_toIntS.f k l) l := by
  unfold laws_toIntS.f
  simp (disch := omega) only [if_pos, if_neg, w64, rdn, rd0, tn, sc, Option.bind_some, ↓reduceIte, Bool.false_eq_true, Bool.true_eq_false]
  exact laws_toIntS_l0 l hl _ _ 0 rfl (by omega) (by simp) (fun j h => by omega)

theorem impl_rise_eq (l : List Int) (hl : ∀ i, i < l.length → 0 ≤ G l i ∧ G l i < 3) {i j : Nat} (hi : i < l.length) (hj : j < l.length) : impl_rise.f l (i : Int) (j : Int) = some (rise (G l i) (G l j)) := by
  have ha := hl i hi
  have hb := hl j hj
  unfold impl_rise.f
  have h1 : wrap64 (G l j - G l i) = G l j - G l i := w64 (by omega) (by omega)
  have h2 : wrap64 (G l j - G l i + 3) = G l j - G l i + 3 := w64 (by omega) (by omega)
  have h3 : Int.tmod (G l j - G l i + 3) 3 = (G l j - G l i + 3) % 3 := tmod_nn (by omega)
  simp only [rdn, h1, h2, h3]
  unfold rise
  by_cases e1 : (G l j - G l i + 3) % 3 = 1
  · simp (disch := omega) only [if_pos, if_neg, w64, rdn, rd0, tn, sc, Option.bind_some, ↓reduceIte, Bool.false_eq_true, Bool.true_eq_false]
    congr 1; omega
  · by_cases e2 : (G l j - G l i + 3) % 3 = 2
    · simp (disch := omega) only [if_pos, if_neg, w64, rdn, rd0, tn, sc, Option.bind_some, ↓reduceIte, Bool.false_eq_true, Bool.true_eq_false]
      congr 1; omega
    · simp (disch := omega) only [if_pos, if_neg, w64, rdn, rd0, tn, sc, Option.bind_some, ↓reduceIte, Bool.false_eq_true, Bool.true_eq_false]
      congr 1; omega

theorem impl_StateOk_l0 (a : Int) (l : List Int) (hl : l.length ≤ 1048576) : ∀ (d : Nat) (i : Nat), l.length - i = d → i ≤ l.length → (∀ j, j < i → 0 ≤ G l j ∧ G l j < a) → Ev (fun k => impl_StateOk.l0 k a l l (l.length : Int) (i : Int)) (decide (StateP a l)) := by
  intro d
  induction d with
  | zero =>
    intro i hd hi hj
    refine Ev.step (fun k => impl_StateOk.l0.eq_2 ..) ?_
    obtain rfl : i = l.length := by omega
    by_cases h3 : 3 ≤ a
    · by_cases h5 : a ≤ 5
      · by_cases h1 : 1 ≤ l.length
        · simp (disch := omega) only [if_pos, if_neg, w64, rdn, rd0, tn, sc, Option.bind_some, ↓reduceIte, Bool.false_eq_true, Bool.true_eq_false]
          refine Ev.val ?_
          rw [decide_eq_decide]
          unfold StateP
          constructor
          · intro e; exact ⟨h3, h5, h1, by omega, hj⟩
          · intro e; have := e.2.2.2.1; omega
        · simp (disch := omega) only [if_pos, if_neg, w64, rdn, rd0, tn, sc, Option.bind_some, ↓reduceIte, Bool.false_eq_true, Bool.true_eq_false]
          refine Ev.val ?_
          have : ¬ StateP a l := fun p => h1 p.2.2.1
          simp [this]
      · simp (disch := omega) only [if_pos, if_neg, w64, rdn, rd0, tn, sc, Option.bind_some, ↓reduceIte, Bool.false_eq_true, Bool.true_eq_false]
        refine Ev.val ?_
        have : ¬ StateP a l := fun p => h5 p.2.1
        simp [this]
    · simp (disch := omega) only [if_pos, if_neg, w64, rdn, rd0, tn, sc, Option.bind_some, ↓reduceIte, Bool.false_eq_true, Bool.true_eq_false]
      refine Ev.val ?_
      have : ¬ StateP a l := fun p => h3 p.1
      simp [this]
  | succ d ih =>
    intro i hd hi hj
    refine Ev.step (fun k => impl_StateOk.l0.eq_2 ..) ?_
    by_cases e0 : G l i < 0
    · simp (disch := omega) only [if_pos, if_neg, w64, rdn, rd0, tn, sc, Option.bind_some, ↓reduceIte, Bool.false_eq_true, Bool.true_eq_false]
      refine Ev.val ?_
      have : ¬ StateP a l := fun p => by have := p.2.2.2.2 i (by omega); omega
      simp [this]
    · by_cases e1 : G l i ≥ a
      · simp (disch := omega) only [if_pos, if_neg, w64, rdn, rd0, tn, sc, Option.bind_some, ↓reduceIte, Bool.false_eq_true, Bool.true_eq_false]
        refine Ev.val ?_
        have : ¬ StateP a l := fun p => by have := p.2.2.2.2 i (by omega); omega
        simp [this]
      · simp (disch := omega) only [if_pos, if_neg, w64, rdn, rd0, tn, sc, Option.bind_some, ↓reduceIte, Bool.false_eq_true, Bool.true_eq_false]
        refine ih (i + 1) (by omega) (by omega) ?_
        intro j hji
        by_cases e' : j = i
        · subst e'; omega
        · exact hj j (by omega)
theorem impl_StateOk_ev (a : Int) (l : List Int) (hl : l.length ≤ 1048576) : Ev (fun k => impl_StateOk.f k a l) (decide (StateP a l)) := by
  unfold impl_StateOk.f
  exact impl_StateOk_l0 a l hl _ 0 rfl (by omega) (fun j h => by omega)

theorem impl_FrontRow_l0 (l : List Int) (hs : StateP 3 l) (h3 : 3 ≤ l.length) : ∀ (d : Nat) (i : Nat), l.length - i = d → i ≤ l.length →
    Ev (fun k => impl_FrontRow.l0 k l (mk i (fun i => rise (G l i) (G l ((i + 1) % l.length)))) (l.length : Int) (i : Int)) (mk l.length (fun i => rise (G l i) (G l ((i + 1) % l.length)))) := by
  intro d
  have h6 := hs.2.2.2.1
  induction d with
  | zero =>
    intro i hd hi
    refine Ev.step (fun k => impl_FrontRow.l0.eq_2 ..) ?_
    obtain rfl : i = l.length := by omega
    simp (disch := omega) only [if_pos, if_neg, w64, rdn, rd0, tn, sc, Option.bind_some, ↓reduceIte, Bool.false_eq_true, Bool.true_eq_false]
    exact Ev.now _
  | succ d ih =>
    intro i hd hi
    refine Ev.step (fun k => impl_FrontRow.l0.eq_2 ..) ?_
    have h := ih (i + 1) (by omega) (by omega)
    rw [mk_succ] at h
    have hm : (i + 1) % l.length < l.length := Nat.mod_lt _ (by omega)
    have e1 : Int.tmod (((i + 1 : Nat) : Int)) (l.length : Int) = (((i + 1) % l.length : Nat) : Int) := by rw [tmod_nn (by omega)]; rfl
    have er := impl_rise_eq l hs.2.2.2.2 (show i < l.length by omega) hm
    simp (disch := omega) only [if_pos, if_neg, w64, rdn, rd0, tn, sc, Option.bind_some, ↓reduceIte, Bool.false_eq_true, Bool.true_eq_false]
    simp only [e1, mk_length, er, Option.bind_some]
    simp (disch := omega) only [if_pos, if_neg, w64, rdn, rd0, tn, sc, Option.bind_some, ↓reduceIte, Bool.false_eq_true, Bool.true_eq_false]
    exact h
theorem impl_FrontRow_ev (l : List Int) (hl : l.length ≤ 1048576) : Ev (fun k => impl_FrontRow.f k l) (frontRow l) := by
  unfold impl_FrontRow.f frontRow
  refine Ev.bind (impl_StateOk_ev 3 l (by omega)) ?_
  by_cases hs : StateP 3 l
  · simp only [hs, decide_true]
    by_cases h3 : 3 ≤ l.length
    · have e : decide ((l.length : Int) < 3) = false := by simp; omega
      simp only [e]
      simp (disch := omega) only [if_pos, if_neg, w64, rdn, rd0, tn, sc, Option.bind_some, ↓reduceIte, Bool.false_eq_true, Bool.true_eq_false]
      refine Ev.step (fun k => impl_FrontRow.j0.eq_2 ..) ?_
      simp (disch := omega) only [if_pos, if_neg, w64, rdn, rd0, tn, sc, Option.bind_some, ↓reduceIte, Bool.false_eq_true, Bool.true_eq_false]
      rw [if_pos ⟨trivial, h3⟩]
      exact impl_FrontRow_l0 l hs h3 _ 0 rfl (by omega)
    · have e : decide ((l.length : Int) < 3) = true := by simp; omega
      simp only [e]
      simp (disch := omega) only [if_pos, if_neg, w64, rdn, rd0, tn, sc, Option.bind_some, ↓reduceIte, Bool.false_eq_true, Bool.true_eq_false]
      refine Ev.step (fun k => impl_FrontRow.j0.eq_2 ..) ?_
      simp (disch := omega) only [if_pos, if_neg, w64, rdn, rd0, tn, sc, Option.bind_some, ↓reduceIte, Bool.false_eq_true, Bool.true_eq_false]
      exact Ev.now _
  · simp only [hs, decide_false]
    simp (disch := omega) only [if_pos, if_neg, w64, rdn, rd0, tn, sc, Option.bind_some, ↓reduceIte, Bool.false_eq_true, Bool.true_eq_false]
    refine Ev.step (fun k => impl_FrontRow.j0.eq_2 ..) ?_
    simp (disch := omega) only [if_pos, if_neg, w64, rdn, rd0, tn, sc, Option.bind_some, ↓reduceIte, Bool.false_eq_true, Bool.true_eq_false]
    exact Ev.now _

-- needs Ring
theorem impl_RingWinding_l0 (f : Nat → Int) (hf : ∀ i, -1 ≤ f i ∧ f i ≤ 1) (n : Nat) (h6 : n ≤ 6) : ∀ (d i : Nat), n - i = d → i ≤ n →
    Ev (fun k => impl_RingWinding.l0 k (sumN f i) (mk n f) (n : Int) (i : Int)) (Int.tdiv (sumN f n) 3, true) := by
  intro d
  have hL : (mk n f).length = n := mk_length _ _
  have hb := ring_sum_bd f hf
  induction d with
  | zero =>
    intro i hd hi
    have ei : i = n := by omega
    subst ei
    refine Ev.step (fun k => impl_RingWinding.l0.eq_2 ..) ?_
    have h1 := hb i
    have hw : wrap64 (Int.tdiv (sumN f i) 3) = Int.tdiv (sumN f i) 3 := by
      have : -10 ≤ Int.tdiv (sumN f i) 3 ∧ Int.tdiv (sumN f i) 3 ≤ 10 := by
        by_cases e : 0 ≤ sumN f i
        · rw [Int.tdiv_eq_ediv_of_nonneg e]; omega
        · have h2 : Int.tdiv (sumN f i) 3 = - Int.tdiv (- sumN f i) 3 := by rw [Int.neg_tdiv]; omega
          rw [h2, Int.tdiv_eq_ediv_of_nonneg (by omega)]; omega
      exact w64 (by omega) (by omega)
    simp only [hw]
    clear hw
    simp (disch := omega) only [if_pos, if_neg, w64, rdn, rd0, tn, sc, Option.bind_some, ↓reduceIte, Bool.false_eq_true, Bool.true_eq_false]
    exact Ev.now _
  | succ d ih =>
    intro i hd hi
    refine Ev.step (fun k => impl_RingWinding.l0.eq_2 ..) ?_
    have hn := ih (i + 1) (by omega) (by omega)
    have h1 := hb i
    have h2 := hf i
    have hg := G_mk f (show i < n by omega)
    have hw : wrap64 (sumN f i + f i) = sumN f (i + 1) := w64 (by omega) (by omega)
    simp only [rdn, hg, hw]
    clear hw hg
    simp (disch := omega) only [if_pos, if_neg, w64, rdn, rd0, tn, sc, Option.bind_some, ↓reduceIte, Bool.false_eq_true, Bool.true_eq_false]
    exact hn
theorem impl_RingWinding_ev (s : List Int) (hs : s.length ≤ 1048576) : Ev (fun k => impl_RingWinding.f k s) (ringWinding s) := by
  unfold impl_RingWinding.f
  refine Ev.bind (impl_FrontRow_ev s hs) ?_
  by_cases h : StateP 3 s ∧ 3 ≤ s.length
  · have e : frontRow s = mk s.length (fun i => rise (G s i) (G s ((i + 1) % s.length))) := by unfold frontRow; first | rw [if_pos h] | simp [h]
    have e2 : ringWinding s = (Int.tdiv (sumN (fun i => rise (G s i) (G s ((i + 1) % s.length))) s.length) 3, true) := if_pos h
    rw [e, e2]
    have h6 := h.1.2.2.2.1
    have h3 := h.2
    simp only [mk_length, show 0 < (s.length : Int) by omega, if_true]
    exact impl_RingWinding_l0 _ (fun i => by unfold rise; omega) s.length h6 _ 0 rfl (by omega)
  · have e : frontRow s = [] := by unfold frontRow; first | rw [if_neg h] | simp [h]
    have e2 : ringWinding s = (0, false) := if_neg h
    rw [e, e2]
    have h0 : ([] : List Int).length = 0 := rfl
    simp only [h0]
    simp (disch := omega) only [if_pos, if_neg, w64, rdn, rd0, tn, sc, Option.bind_some, ↓reduceIte, Bool.false_eq_true, Bool.true_eq_false]
    exact Ev.now _

theorem laws_eqIntS_l0 (a b : List Int) (hl : a.length ≤ 1048576) (hab : a.length = b.length) : ∀ (d : Nat) (i : Nat), a.length - i = d → i ≤ a.length → (∀ j, j < i → G a j = G b j) → Ev (fun k => laws_eqIntS.l0 k a b (i : Int)) (decide (a = b)) := by
  intro d
  induction d with
  | zero =>
    intro i hd hi hj
    refine Ev.step (fun k => laws_eqIntS.l0.eq_2 ..) ?_
    simp (disch := omega) only [if_pos, if_neg, w64, rdn, rd0, tn, sc, Option.bind_some, ↓reduceIte, Bool.false_eq_true, Bool.true_eq_false]
    have e : a = b := ext hab (fun j h => hj j (by omega))
    exact Ev.val (by simp [e])
  | succ d ih =>
    intro i hd hi hj
    refine Ev.step (fun k => laws_eqIntS.l0.eq_2 ..) ?_
    by_cases e : G a i = G b i
    · simp (disch := omega) only [if_pos, if_neg, w64, rdn, rd0, tn, sc, Option.bind_some, ↓reduceIte, Bool.false_eq_true, Bool.true_eq_false]
      refine ih _ (by omega) (by omega) ?_
      intro j hji
      by_cases e' : j = i
      · subst e'; exact e
      · exact hj j (by omega)
    · simp (disch := omega) only [if_pos, if_neg, w64, rdn, rd0, tn, sc, Option.bind_some, ↓reduceIte, Bool.false_eq_true, Bool.true_eq_false]
      have : a ≠ b := fun h => e (by rw [h])
      exact Ev.val (by simp [this])
theorem laws_eqIntS_ev (a b : List Int) (hl : a.length ≤ 1048576) : Ev (fun k => laws_eqIntS.f k a b) (decide (a = b)) := by
  unfold laws_eqIntS.f
  by_cases hab : a.length = b.length
  · simp (disch := omega) only [if_pos, if_neg, w64, rdn, rd0, tn, sc, Option.bind_some, ↓reduceIte, Bool.false_eq_true, Bool.true_eq_false]
    exact laws_eqIntS_l0 a b hl hab _ 0 rfl (by omega) (fun j h => by omega)
  · simp (disch := omega) only [if_pos, if_neg, w64, rdn, rd0, tn, sc, Option.bind_some, ↓reduceIte, Bool.false_eq_true, Bool.true_eq_false]
    have : a ≠ b := fun h => hab (by rw [h])
    exact Ev.val (by simp [this])
theorem laws_eqIntS_self (a : List Int) (hl : a.length ≤ 1048576) : Ev (fun k => laws_eqIntS.f k a a) true := by
  have h := laws_eqIntS_ev a a hl
  simpa using h

theorem FnExactRingWinding : laws_FnExactRingWinding.Pure := by
  intro state _ _ _
  refine Ev.rounds (r := true) ?_
  unfold laws_FnExactRingWinding.f
  by_cases hstate : state.length ≤ 1048576
  rotate_left
  · simp (disch := omega) only [if_pos, if_neg, w64, rdn, rd0, tn, sc, Option.bind_some, ↓reduceIte, Bool.false_eq_true, Bool.true_eq_false]
    exact Ev.now _
  simp (disch := omega) only [if_pos, if_neg, w64, rdn, rd0, tn, sc, Option.bind_some, ↓reduceIte, Bool.false_eq_true, Bool.true_eq_false]
  refine Ev.bind (laws_toIntS_ev state hstate) ?_
  refine Ev.bind (spec_RingWinding_ev state hstate) ?_
  refine Ev.bind (laws_toIntS_ev state hstate) ?_
  refine Ev.bind (impl_RingWinding_ev state hstate) ?_
  simp only [bne_self_eq_false]
  simp (disch := omega) only [if_pos, if_neg, w64, rdn, rd0, tn, sc, Option.bind_some, ↓reduceIte, Bool.false_eq_true, Bool.true_eq_false]
  refine Ev.step (fun k => laws_FnExactRingWinding.j0.eq_2 ..) ?_
  simp (disch := omega) only [if_pos, if_neg, w64, rdn, rd0, tn, sc, Option.bind_some, ↓reduceIte, Bool.false_eq_true, Bool.true_eq_false]
  refine Ev.bind (laws_toIntS_ev state hstate) ?_
  refine Ev.bind (laws_eqIntS_self _ hstate) ?_
  simp (disch := omega) only [if_pos, if_neg, w64, rdn, rd0, tn, sc, Option.bind_some, ↓reduceIte, Bool.false_eq_true, Bool.true_eq_false]
  exact Ev.now _

end Go.Proofs.Ytkofidpgbmajdaa.Pure
