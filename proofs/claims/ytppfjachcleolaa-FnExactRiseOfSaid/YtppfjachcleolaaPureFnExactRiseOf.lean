/- Proved: the statement FnExactRiseOf, for every input, without further conditions. -/
import Derived.Test.YtppfjachcleolaaPFnExactRiseOfx2
import Derived.Test.YtppfjachcleolaaBase
namespace Go.Proofs.Ytppfjachcleolaa.Pure
open Go.RowKit Go.Proofs.Ytppfjachcleolaa.PFnExactRiseOf Go.Proofs.YtppfjachcleolaaW.PrintWords Go.Proofs.YtppfjachcleolaaW.PrintLast Go.Proofs.Ytppfjachcleolaa.B Go.Proofs.Ytppfjachcleolaa.C
set_option linter.unusedSimpArgs false
set_option linter.unusedVariables false

theorem laws_toIntS_l0 (l : List Int) (hl : l.length ≤ 1048576) : ∀ (d : Nat) (x : List Int) (i : Nat), l.length - i = d → i ≤ l.length → x.length = l.length → (∀ j, j < i → G x j = G l j) → Ev (fun k => laws_toIntS.l0 k l x (i : Int)) l := by
  intro d
  induction d with
  | zero =>
    intro x i hd hi hx hj
    refine Ev.step (fun k => laws_toIntS.l0.eq_2 ..) ?_
    simp (disch := omega) only [if_pos, if_neg, w64, rdn, rd0, tn, sc, Option.bind_some, ↓reduceIte, Bool.false_eq_true, Bool.true_eq_false]
    exact Ev.val (ext hx (fun j h => hj j (by omega)))
  | succ d ih =>
    intro x i hd hi hx hj
    refine Ev.step (fun k => laws_toIntS.l0.eq_2 ..) ?_
    simp (disch := omega) only [if_pos, if_neg, w64, rdn, rd0, tn, sc, Option.bind_some, ↓reduceIte, Bool.false_eq_true, Bool.true_eq_false]
    refine ih _ _ (by omega) (by omega) (by simp [hx]) ?_
    intro j hji
    by_cases e : j = i
    · subst e; rw [G_set_self _ (by omega)]
    · rw [G_set_ne _ e]; exact hj j (by omega)
theorem laws_toIntS_ev (l : List Int) (hl : l.length ≤ 1048576) : Ev (fun k => laws_toIntS.f k l) l := by
  unfold laws_toIntS.f
  simp (disch := omega) only [if_pos, if_neg, w64, rdn, rd0, tn, sc, Option.bind_some, ↓reduceIte, Bool.false_eq_true, Bool.true_eq_false]
  exact laws_toIntS_l0 l hl _ _ 0 rfl (by omega) (by simp) (fun j h => by omega)

theorem laws_eqIntS_l0 (a b : List Int) (hl : a.length ≤ 1048576) (hab : a.length = b.length) : ∀ (d : Nat) (i : Nat), a.length - i = d → i ≤ a.length → (∀ j, j < i → G a j = G b j) → Ev (fun k => laws_eqIntS.l0 k a b (i : Int)) (decide (a = b)) := by
  intro d
  induction d with
  | zero =>
    intro i hd hi hj
    refine Ev.step (fun k => laws_eqIntS.l0.eq_2 ..) ?_
    simp (disch := omega) only [if_pos, if_neg, w64, rdn, rd0, tn, sc, Option.bind_some, ↓reduceIte, Bool.false_eq_true, Bool.true_eq_false]
    have e : a = b := ext hab (fun j h => hj j (by omega))
    exact Ev.val (by simp [e])
  | succ d ih =>
    intro i hd hi hj
    refine Ev.step (fun k => laws_eqIntS.l0.eq_2 ..) ?_
    by_cases e : G a i = G b i
    · simp (disch := omega) only [if_pos, if_neg, w64, rdn, rd0, tn, sc, Option.bind_some, ↓reduceIte, Bool.false_eq_true, Bool.true_eq_false]
      refine ih _ (by omega) (by omega) ?_
      intro j hji
      by_cases e' : j = i
      · subst e'; exact e
      · exact hj j (by omega)
    · simp (disch := omega) only [if_pos, if_neg, w64, rdn, rd0, tn, sc, Option.bind_some, ↓reduceIte, Bool.false_eq_true, Bool.true_eq_false]
      have : a ≠ b := fun h => e (by rw [h])
      exact Ev.val (by simp [this])
theorem laws_eqIntS_ev (a b : List Int) (hl : a.length ≤ 1048576) : Ev (fun k => laws_eqIntS.f k a b) (decide (a = b)) := by
  unfold laws_eqIntS.f
  by_cases hab : a.length = b.length
  · simp (disch := omega) only [if_pos, if_neg, w64, rdn, rd0, tn, sc, Option.bind_some, ↓reduceIte, Bool.false_eq_true, Bool.true_eq_false]
    exact laws_eqIntS_l0 a b hl hab _ 0 rfl (by omega) (fun j h => by omega)
  · simp (disch := omega) only [if_pos, if_neg, w64, rdn, rd0, tn, sc, Option.bind_some, ↓reduceIte, Bool.false_eq_true, Bool.true_eq_false]
    have : a ≠ b := fun h => hab (by rw [h])
    exact Ev.val (by simp [this])
theorem laws_eqIntS_self (a : List Int) (hl : a.length ≤ 1048576) : Ev (fun k => laws_eqIntS.f k a a) true := by
  have h := laws_eqIntS_ev a a hl
  simpa using h

theorem spec_l1In_eq (a b c : Int) : spec_l1In.f a b c = some (decide (b ≤ a ∧ a ≤ c)) := by
  unfold spec_l1In.f
  by_cases h : b ≤ a <;> simp [h]

theorem spec_StateOk_l0 (a : Int) (l : List Int) (hl : l.length ≤ 1048576) : ∀ (d : Nat) (i : Nat), l.length - i = d → i ≤ l.length → (∀ j, j < i → 0 ≤ G l j ∧ G l j < a) → Ev (fun k => spec_StateOk.l0 k a l (i : Int)) (decide (StateP a l)) := by
  intro d
  induction d with
  | zero =>
    intro i hd hi hj
    refine Ev.step (fun k => spec_StateOk.l0.eq_2 ..) ?_
    simp only [spec_l1In_eq, Option.bind_some]
    obtain rfl : i = l.length := by omega
    by_cases h : 3 ≤ a ∧ a ≤ 5
    · simp only [h, and_self, decide_true]
      simp (disch := omega) only [if_pos, if_neg, w64, rdn, rd0, tn, sc, Option.bind_some, ↓reduceIte, Bool.false_eq_true, Bool.true_eq_false]
      refine Ev.val ?_
      rw [decide_eq_decide]
      unfold StateP
      constructor
      · intro e; exact ⟨h.1, h.2, by omega, by omega, hj⟩
      · intro e; have := e.2.2.1; have := e.2.2.2.1; omega
    · simp only [h, decide_false]
      simp (disch := omega) only [if_pos, if_neg, w64, rdn, rd0, tn, sc, Option.bind_some, ↓reduceIte, Bool.false_eq_true, Bool.true_eq_false]
      refine Ev.val ?_
      have : ¬ StateP a l := fun p => h ⟨p.1, p.2.1⟩
      simp [this]
  | succ d ih =>
    intro i hd hi hj
    refine Ev.step (fun k => spec_StateOk.l0.eq_2 ..) ?_
    by_cases e0 : G l i < 0
    · simp (disch := omega) only [if_pos, if_neg, w64, rdn, rd0, tn, sc, Option.bind_some, ↓reduceIte, Bool.false_eq_true, Bool.true_eq_false]
      refine Ev.val ?_
      have : ¬ StateP a l := fun p => by have := p.2.2.2.2 i (by omega); omega
      simp [this]
    · by_cases e1 : G l i ≥ a
      · simp (disch := omega) only [if_pos, if_neg, w64, rdn, rd0, tn, sc, Option.bind_some, ↓reduceIte, Bool.false_eq_true, Bool.true_eq_false]
        refine Ev.val ?_
        have : ¬ StateP a l := fun p => by have := p.2.2.2.2 i (by omega); omega
        simp [this]
      · simp (disch := omega) only [if_pos, if_neg, w64, rdn, rd0, tn, sc, Option.bind_some, ↓reduceIte, Bool.false_eq_true, Bool.true_eq_false]
        refine ih (i + 1) (by omega) (by omega) ?_
        intro j hji
        by_cases e' : j = i
        · subst e'; omega
        · exact hj j (by omega)
theorem spec_StateOk_ev (a : Int) (l : List Int) (hl : l.length ≤ 1048576) : Ev (fun k => spec_StateOk.f k a l) (decide (StateP a l)) := by
  unfold spec_StateOk.f
  exact spec_StateOk_l0 a l hl _ 0 rfl (by omega) (fun j h => by omega)

theorem spec_l6Rise_eq (a b : Int) (ha : 0 ≤ a ∧ a < 3) (hb : 0 ≤ b ∧ b < 3) : spec_l6Rise.f a b = some (rise a b) := by
  unfold spec_l6Rise.f rise
  have h1 : wrap64 (b - a) = b - a := w64 (by omega) (by omega)
  have h2 : wrap64 (b - a + 3) = b - a + 3 := w64 (by omega) (by omega)
  have h3 : wrap64 (b - a + 3 + 1) = b - a + 4 := by rw [w64 (by omega) (by omega)]; omega
  rw [h1, h2, h3, tmod_nn (by omega), w64 (by omega) (by omega)]

/-- What RiseOf tells. -/
def riseOf (l : List Int) (a b : Int) : Int := if StateP 3 l ∧ 0 ≤ a ∧ a < l.length ∧ 0 ≤ b ∧ b < l.length then rise (G l a.toNat) (G l b.toNat) else 0
theorem riseOf_no {l : List Int} {a b : Int} (h : ¬ (StateP 3 l ∧ 0 ≤ a ∧ a < l.length ∧ 0 ≤ b ∧ b < l.length)) : riseOf l a b = 0 := if_neg h
theorem riseOf_yes {l : List Int} {i j : Nat} (h : StateP 3 l) (hi : i < l.length) (hj : j < l.length) : riseOf l (i : Int) (j : Int) = rise (G l i) (G l j) := if_pos ⟨h, by omega, by omega, by omega, by omega⟩
theorem spec_RiseOf_ev (l : List Int) (a b : Int) (hl : l.length ≤ 1048576) : Ev (fun k => spec_RiseOf.f k l a b) (riseOf l a b) := by
  unfold spec_RiseOf.f
  refine Ev.bind (spec_StateOk_ev 3 l hl) ?_
  by_cases hs : StateP 3 l
  · have hn := hs.2.2.1
    have hw : wrap64 ((l.length : Int) - 1) = (l.length : Int) - 1 := w64 (by omega) (by omega)
    simp only [hs, decide_true, spec_l1In_eq, Option.bind_some, hw]
    by_cases ha : 0 ≤ a ∧ a ≤ (l.length : Int) - 1
    · by_cases hb : 0 ≤ b ∧ b ≤ (l.length : Int) - 1
      · obtain ⟨i, rfl⟩ := Int.eq_ofNat_of_zero_le ha.1
        obtain ⟨j, rfl⟩ := Int.eq_ofNat_of_zero_le hb.1
        have e := spec_l6Rise_eq _ _ (hs.2.2.2.2 i (by omega)) (hs.2.2.2.2 j (by omega))
        rw [riseOf_yes hs (by omega) (by omega)]
        simp only [ha, hb, and_self, decide_true]
        simp (disch := omega) only [if_pos, if_neg, w64, rdn, rd0, tn, sc, Option.bind_some, ↓reduceIte, Bool.false_eq_true, Bool.true_eq_false]
        simp only [e, Option.bind_some]
        exact Ev.now _
      · rw [riseOf_no (by omega)]
        simp only [ha, hb, and_self, decide_true, decide_false]
        simp (disch := omega) only [if_pos, if_neg, w64, rdn, rd0, tn, sc, Option.bind_some, ↓reduceIte, Bool.false_eq_true, Bool.true_eq_false]
        exact Ev.now _
    · rw [riseOf_no (by omega)]
      simp only [ha, decide_false]
      simp (disch := omega) only [if_pos, if_neg, w64, rdn, rd0, tn, sc, Option.bind_some, ↓reduceIte, Bool.false_eq_true, Bool.true_eq_false]
      exact Ev.now _
  · rw [riseOf_no (fun h => hs h.1)]
    simp only [hs, decide_false]
    simp (disch := omega) only [if_pos, if_neg, w64, rdn, rd0, tn, sc, Option.bind_some, ↓reduceIte, Bool.false_eq_true, Bool.true_eq_false]
    exact Ev.now _

theorem impl_StateOk_l0 (a : Int) (l : List Int) (hl : l.length ≤ 1048576) : ∀ (d : Nat) (i : Nat), l.length - i = d → i ≤ l.length → (∀ j, j < i → 0 ≤ G l j ∧ G l j < a) → Ev (fun k => impl_StateOk.l0 k a l l (l.length : Int) (i : Int)) (decide (StateP a l)) := by
  intro d
  induction d with
  | zero =>
    intro i hd hi hj
    refine Ev.step (fun k => impl_StateOk.l0.eq_2 ..) ?_
    obtain rfl : i = l.length := by omega
    by_cases h3 : 3 ≤ a
    · by_cases h5 : a ≤ 5
      · by_cases h1 : 1 ≤ l.length
        · simp (disch := omega) only [if_pos, if_neg, w64, rdn, rd0, tn, sc, Option.bind_some, ↓reduceIte, Bool.false_eq_true, Bool.true_eq_false]
          refine Ev.val ?_
          rw [decide_eq_decide]
          unfold StateP
          constructor
          · intro e; exact ⟨h3, h5, h1, by omega, hj⟩
          · intro e; have := e.2.2.2.1; omega
        · simp (disch := omega) only [if_pos, if_neg, w64, rdn, rd0, tn, sc, Option.bind_some, ↓reduceIte, Bool.false_eq_true, Bool.true_eq_false]
          refine Ev.val ?_
          have : ¬ StateP a l := fun p => h1 p.2.2.1
          simp [this]
      · simp (disch := omega) only [if_pos, if_neg, w64, rdn, rd0, tn, sc, Option.bind_some, ↓reduceIte, Bool.false_eq_true, Bool.true_eq_false]
        refine Ev.val ?_
        have : ¬ StateP a l := fun p => h5 p.2.1
        simp [this]
    · simp (disch := omega) only [if_pos, if_neg, w64, rdn, rd0, tn, sc, Option.bind_some, ↓reduceIte, Bool.false_eq_true, Bool.true_eq_false]
      refine Ev.val ?_
      have : ¬ StateP a l := fun p => h3 p.1
      simp [this]
  | succ d ih =>
    intro i hd hi hj
    refine Ev.step (fun k => impl_StateOk.l0.eq_2 ..) ?_
    by_cases e0 : G l i < 0
    · simp (disch := omega) only [if_pos, if_neg, w64, rdn, rd0, tn, sc, Option.bind_some, ↓reduceIte, Bool.false_eq_true, Bool.true_eq_false]
      refine Ev.val ?_
      have : ¬ StateP a l := fun p => by have := p.2.2.2.2 i (by omega); omega
      simp [this]
    · by_cases e1 : G l i ≥ a
      · simp (disch := omega) only [if_pos, if_neg, w64, rdn, rd0, tn, sc, Option.bind_some, ↓reduceIte, Bool.false_eq_true, Bool.true_eq_false]
        refine Ev.val ?_
        have : ¬ StateP a l := fun p => by have := p.2.2.2.2 i (by omega); omega
        simp [this]
      · simp (disch := omega) only [if_pos, if_neg, w64, rdn, rd0, tn, sc, Option.bind_some, ↓reduceIte, Bool.false_eq_true, Bool.true_eq_false]
        refine ih (i + 1) (by omega) (by omega) ?_
        intro j hji
        by_cases e' : j = i
        · subst e'; omega
        · exact hj j (by omega)
theorem impl_StateOk_ev (a : Int) (l : List Int) (hl : l.length ≤ 1048576) : Ev (fun k => impl_StateOk.f k a l) (decide (StateP a l)) := by
  unfold impl_StateOk.f
  exact impl_StateOk_l0 a l hl _ 0 rfl (by omega) (fun j h => by omega)

theorem impl_rise_eq (l : List Int) (hl : ∀ i, i < l.length → 0 ≤ G l i ∧ G l i < 3) {i j : Nat} (hi : i < l.length) (hj : j < l.length) : impl_rise.f l (i : Int) (j : Int) = some (rise (G l i) (G l j)) := by
  have ha := hl i hi
  have hb := hl j hj
  unfold impl_rise.f
  have h1 : wrap64 (G l j - G l i) = G l j - G l i := w64 (by omega) (by omega)
  have h2 : wrap64 (G l j - G l i + 3) = G l j - G l i + 3 := w64 (by omega) (by omega)
  have h3 : Int.tmod (G l j - G l i + 3) 3 = (G l j - G l i + 3) % 3 := tmod_nn (by omega)
  simp only [rdn, h1, h2, h3]
  unfold rise
  by_cases e1 : (G l j - G l i + 3) % 3 = 1
  · simp (disch := omega) only [if_pos, if_neg, w64, rdn, rd0, tn, sc, Option.bind_some, ↓reduceIte, Bool.false_eq_true, Bool.true_eq_false]
    congr 1; omega
  · by_cases e2 : (G l j - G l i + 3) % 3 = 2
    · simp (disch := omega) only [if_pos, if_neg, w64, rdn, rd0, tn, sc, Option.bind_some, ↓reduceIte, Bool.false_eq_true, Bool.true_eq_false]
      congr 1; omega
    · simp (disch := omega) only [if_pos, if_neg, w64, rdn, rd0, tn, sc, Option.bind_some, ↓reduceIte, Bool.false_eq_true, Bool.true_eq_false]
      congr 1; omega

theorem impl_RiseOf_ev (l : List Int) (a b : Int) (hl : l.length ≤ 1048576) : Ev (fun k => impl_RiseOf.f k l a b) (riseOf l a b) := by
  unfold impl_RiseOf.f
  refine Ev.bind (impl_StateOk_ev 3 l hl) ?_
  by_cases hs : StateP 3 l
  · simp only [hs, decide_true]
    by_cases ha0 : a < 0
    · rw [riseOf_no (by omega)]
      simp (disch := omega) only [if_pos, if_neg, w64, rdn, rd0, tn, sc, Option.bind_some, ↓reduceIte, Bool.false_eq_true, Bool.true_eq_false]
      exact Ev.now _
    · by_cases ha1 : a ≥ (l.length : Int)
      · rw [riseOf_no (by omega)]
        simp (disch := omega) only [if_pos, if_neg, w64, rdn, rd0, tn, sc, Option.bind_some, ↓reduceIte, Bool.false_eq_true, Bool.true_eq_false]
        exact Ev.now _
      · by_cases hb0 : b < 0
        · rw [riseOf_no (by omega)]
          simp (disch := omega) only [if_pos, if_neg, w64, rdn, rd0, tn, sc, Option.bind_some, ↓reduceIte, Bool.false_eq_true, Bool.true_eq_false]
          exact Ev.now _
        · by_cases hb1 : b ≥ (l.length : Int)
          · rw [riseOf_no (by omega)]
            simp (disch := omega) only [if_pos, if_neg, w64, rdn, rd0, tn, sc, Option.bind_some, ↓reduceIte, Bool.false_eq_true, Bool.true_eq_false]
            exact Ev.now _
          · obtain ⟨i, rfl⟩ := Int.eq_ofNat_of_zero_le (show 0 ≤ a by omega)
            obtain ⟨j, rfl⟩ := Int.eq_ofNat_of_zero_le (show 0 ≤ b by omega)
            rw [riseOf_yes hs (by omega) (by omega)]
            simp (disch := omega) only [if_pos, if_neg, w64, rdn, rd0, tn, sc, Option.bind_some, ↓reduceIte, Bool.false_eq_true, Bool.true_eq_false]
            rw [impl_rise_eq l hs.2.2.2.2 (by omega) (by omega)]
            simp (disch := omega) only [if_pos, if_neg, w64, rdn, rd0, tn, sc, Option.bind_some, ↓reduceIte, Bool.false_eq_true, Bool.true_eq_false]
            exact Ev.now _
  · rw [riseOf_no (fun h => hs h.1)]
    simp only [hs, decide_false]
    simp (disch := omega) only [if_pos, if_neg, w64, rdn, rd0, tn, sc, Option.bind_some, ↓reduceIte, Bool.false_eq_true, Bool.true_eq_false]
    exact Ev.now _

theorem FnExactRiseOf : laws_FnExactRiseOf.Pure := by
  intro l a b _ _ _ _ _
  refine Ev.rounds (r := true) ?_
  unfold laws_FnExactRiseOf.f
  by_cases hl : l.length ≤ 1048576
  rotate_left
  · simp (disch := omega) only [if_pos, if_neg, w64, rdn, rd0, tn, sc, Option.bind_some, ↓reduceIte, Bool.false_eq_true, Bool.true_eq_false]
    exact Ev.now _
  simp (disch := omega) only [if_pos, if_neg, w64, rdn, rd0, tn, sc, Option.bind_some, ↓reduceIte, Bool.false_eq_true, Bool.true_eq_false]
  refine Ev.bind (laws_toIntS_ev l hl) ?_
  refine Ev.bind (spec_RiseOf_ev l a b hl) ?_
  refine Ev.bind (laws_toIntS_ev l hl) ?_
  refine Ev.bind (impl_RiseOf_ev l a b hl) ?_
  simp only [bne_self_eq_false]
  simp (disch := omega) only [if_pos, if_neg, w64, rdn, rd0, tn, sc, Option.bind_some, ↓reduceIte, Bool.false_eq_true, Bool.true_eq_false]
  refine Ev.bind (laws_toIntS_ev l hl) ?_
  refine Ev.bind (laws_eqIntS_self _ hl) ?_
  simp (disch := omega) only [if_pos, if_neg, w64, rdn, rd0, tn, sc, Option.bind_some, ↓reduceIte, Bool.false_eq_true, Bool.true_eq_false]
  exact Ev.now _

end Go.Proofs.Ytppfjachcleolaa.Pure
