/- Proved: the statement FnExactStateOfFronts, for every input, without further conditions. -/
import Derived.Test.YtppfjachcleolaaPFnExactStateOfFrontsx2
import Derived.Test.YtppfjachcleolaaBase
namespace Go.Proofs.Ytppfjachcleolaa.Pure
open Go.RowKit Go.Proofs.Ytppfjachcleolaa.PFnExactStateOfFronts Go.Proofs.YtppfjachcleolaaW.PrintWords Go.Proofs.YtppfjachcleolaaW.PrintLast Go.Proofs.Ytppfjachcleolaa.B Go.Proofs.Ytppfjachcleolaa.C
set_option linter.unusedSimpArgs false
set_option linter.unusedVariables false

theorem laws_toIntS_l0 (l : List Int) (hl : l.length ≤ 1048576) : ∀ (d : Nat) (x : List Int) (i : Nat), l.length - i = d → i ≤ l.length → x.length = l.length → (∀ j, j < i → G x j = G l j) → Ev (fun k => laws_toIntS.l0 k l x (i : Int)) l := by
  intro d
  induction d with
  | zero =>
    intro x i hd hi hx hj
    refine Ev.step (fun k => laws_toIntS.l0.eq_2 ..) ?_
    simp (disch := omega) only [if_pos, if_neg, w64, rdn, rd0, tn, sc, Option.bind_some, ↓reduceIte, Bool.false_eq_true, Bool.true_eq_false]
    exact Ev.val (ext hx (fun j h => hj j (by omega)))
  | succ d ih =>
    intro x i hd hi hx hj
    refine Ev.step (fun k => laws_toIntS.l0.eq_2 ..) ?_
    simp (disch := omega) only [if_pos, if_neg, w64, rdn, rd0, tn, sc, Option.bind_some, ↓reduceIte, Bool.false_eq_true, Bool.true_eq_false]
    refine ih _ _ (by omega) (by omega) (by simp [hx]) ?_
    intro j hji
    by_cases e : j = i
    · subst e; rw [G_set_self _ (by omega)]
    · rw [G_set_ne _ e]; exact hj j (by omega)
theorem laws_toIntS_ev (l : List Int) (hl : l.length ≤ 1048576) : Ev (fun k => laws_toIntS.f k l) l := by
  unfold laws_toIntS.f
  simp (disch := omega) only [if_pos, if_neg, w64, rdn, rd0, tn, sc, Option.bind_some, ↓reduceIte, Bool.false_eq_true, Bool.true_eq_false]
  exact laws_toIntS_l0 l hl _ _ 0 rfl (by omega) (by simp) (fun j h => by omega)

theorem laws_eqIntS_l0 (a b : List Int) (hl : a.length ≤ 1048576) (hab : a.length = b.length) : ∀ (d : Nat) (i : Nat), a.length - i = d → i ≤ a.length → (∀ j, j < i → G a j = G b j) → Ev (fun k => laws_eqIntS.l0 k a b (i : Int)) (decide (a = b)) := by
  intro d
  induction d with
  | zero =>
    intro i hd hi hj
    refine Ev.step (fun k => laws_eqIntS.l0.eq_2 ..) ?_
    simp (disch := omega) only [if_pos, if_neg, w64, rdn, rd0, tn, sc, Option.bind_some, ↓reduceIte, Bool.false_eq_true, Bool.true_eq_false]
    have e : a = b := ext hab (fun j h => hj j (by omega))
    exact Ev.val (by simp [e])
  | succ d ih =>
    intro i hd hi hj
    refine Ev.step (fun k => laws_eqIntS.l0.eq_2 ..) ?_
    by_cases e : G a i = G b i
    · simp (disch := omega) only [if_pos, if_neg, w64, rdn, rd0, tn, sc, Option.bind_some, ↓reduceIte, Bool.false_eq_true, Bool.true_eq_false]
      refine ih _ (by omega) (by omega) ?_
      intro j hji
      by_cases e' : j = i
      · subst e'; exact e
      · exact hj j (by omega)
    · simp (disch := omega) only [if_pos, if_neg, w64, rdn, rd0, tn, sc, Option.bind_some, ↓reduceIte, Bool.false_eq_true, Bool.true_eq_false]
      have : a ≠ b := fun h => e (by rw [h])
      exact Ev.val (by simp [this])
theorem laws_eqIntS_ev (a b : List Int) (hl : a.length ≤ 1048576) : Ev (fun k => laws_eqIntS.f k a b) (decide (a = b)) := by
  unfold laws_eqIntS.f
  by_cases hab : a.length = b.length
  · simp (disch := omega) only [if_pos, if_neg, w64, rdn, rd0, tn, sc, Option.bind_some, ↓reduceIte, Bool.false_eq_true, Bool.true_eq_false]
    exact laws_eqIntS_l0 a b hl hab _ 0 rfl (by omega) (fun j h => by omega)
  · simp (disch := omega) only [if_pos, if_neg, w64, rdn, rd0, tn, sc, Option.bind_some, ↓reduceIte, Bool.false_eq_true, Bool.true_eq_false]
    have : a ≠ b := fun h => hab (by rw [h])
    exact Ev.val (by simp [this])
theorem laws_eqIntS_self (a : List Int) (hl : a.length ≤ 1048576) : Ev (fun k => laws_eqIntS.f k a a) true := by
  have h := laws_eqIntS_ev a a hl
  simpa using h

theorem spec_l1In_eq (a b c : Int) : spec_l1In.f a b c = some (decide (b ≤ a ∧ a ≤ c)) := by
  unfold spec_l1In.f
  by_cases h : b ≤ a <;> simp [h]

theorem spec_FrontsOk_l0 (l : List Int) (hl : l.length ≤ 1048576) : ∀ (d : Nat) (i : Nat), l.length - i = d → i ≤ l.length → (∀ j, j < i → -1 ≤ G l j ∧ G l j ≤ 1) → Ev (fun k => spec_FrontsOk.l0 k l (sumN (G l) i) (i : Int)) (decide (FrontsP l)) := by
  intro d
  induction d with
  | zero =>
    intro i hd hi hj
    refine Ev.step (fun k => spec_FrontsOk.l0.eq_2 ..) ?_
    simp only [spec_l1In_eq, Option.bind_some]
    obtain rfl : i = l.length := by omega
    by_cases h : 3 ≤ l.length ∧ l.length ≤ 6
    · have h' : (3 : Int) ≤ (l.length : Int) ∧ (l.length : Int) ≤ 6 := by omega
      simp only [h', and_self, decide_true]
      simp (disch := omega) only [if_pos, if_neg, w64, rdn, rd0, tn, sc, Option.bind_some, ↓reduceIte, Bool.false_eq_true, Bool.true_eq_false]
      rw [tmod3]
      refine Ev.val ?_
      simp only [FrontsP, h.1, h.2, true_and]
      rw [decide_eq_decide]
      exact ⟨fun e => ⟨fun i hi => hj i hi, e⟩, fun e => e.2⟩
    · have h' : ¬ ((3 : Int) ≤ (l.length : Int) ∧ (l.length : Int) ≤ 6) := by omega
      simp only [h', decide_false]
      simp (disch := omega) only [if_pos, if_neg, w64, rdn, rd0, tn, sc, Option.bind_some, ↓reduceIte, Bool.false_eq_true, Bool.true_eq_false]
      refine Ev.val ?_
      have : ¬ FrontsP l := fun p => h ⟨p.1, p.2.1⟩
      simp [this]
  | succ d ih =>
    intro i hd hi hj
    refine Ev.step (fun k => spec_FrontsOk.l0.eq_2 ..) ?_
    have hb := sumN_bound (f := G l) (n := i) (b := 1) hj
    by_cases e : -1 ≤ G l i ∧ G l i ≤ 1
    · have e1 : spec_l1In.f (G l i) (-1) 1 = some true := by rw [spec_l1In_eq]; simp [e]
      simp (disch := omega) only [if_pos, if_neg, w64, rdn, rd0, tn, sc, Option.bind_some, ↓reduceIte, Bool.false_eq_true, Bool.true_eq_false]
      simp only [e1, Option.bind_some]
      simp (disch := omega) only [if_pos, if_neg, w64, rdn, rd0, tn, sc, Option.bind_some, ↓reduceIte, Bool.false_eq_true, Bool.true_eq_false]
      refine ih (i + 1) (by omega) (by omega) ?_
      intro j hji
      by_cases e' : j = i
      · subst e'; exact e
      · exact hj j (by omega)
    · have e1 : spec_l1In.f (G l i) (-1) 1 = some false := by rw [spec_l1In_eq]; simp only [e, decide_false]
      simp (disch := omega) only [if_pos, if_neg, w64, rdn, rd0, tn, sc, Option.bind_some, ↓reduceIte, Bool.false_eq_true, Bool.true_eq_false]
      simp only [e1, Option.bind_some]
      simp (disch := omega) only [if_pos, if_neg, w64, rdn, rd0, tn, sc, Option.bind_some, ↓reduceIte, Bool.false_eq_true, Bool.true_eq_false]
      refine Ev.val ?_
      have : ¬ FrontsP l := fun p => e (p.2.2.1 i (by omega))
      simp [this]
theorem spec_FrontsOk_ev (l : List Int) (hl : l.length ≤ 1048576) : Ev (fun k => spec_FrontsOk.f k l) (decide (FrontsP l)) := by
  unfold spec_FrontsOk.f
  exact spec_FrontsOk_l0 l hl _ 0 rfl (by omega) (fun j h => by omega)

/-- The kind of node i, told by the first one and the fronts. -/
def walkKind (a : Int) (l : List Int) : Nat → Int
  | 0 => a
  | i + 1 => (walkKind a l i + G l i + 3) % 3
def stateOfFronts (a : Int) (l : List Int) : List Int := if FrontsP l ∧ 0 ≤ a ∧ a < 3 then mk l.length (walkKind a l) else []
theorem walkKind_bd {a : Int} {l : List Int} (ha : 0 ≤ a ∧ a < 3) : ∀ i, 0 ≤ walkKind a l i ∧ walkKind a l i < 3
  | 0 => ha
  | i + 1 => by simp only [walkKind]; omega
theorem spec_StateOfFronts_l0 (a : Int) (l : List Int) (hf : FrontsP l) (ha : 0 ≤ a ∧ a < 3) : ∀ (d : Nat) (i : Nat), l.length - i = d → i ≤ l.length →
    Ev (fun k => spec_StateOfFronts.l0 k a l (mk i (walkKind a l)) (walkKind a l i) (i : Int)) (mk l.length (walkKind a l)) := by
  intro d
  have h6 := hf.2.1
  have h3 := hf.1
  induction d with
  | zero =>
    intro i hd hi
    refine Ev.step (fun k => spec_StateOfFronts.l0.eq_2 ..) ?_
    obtain rfl : i = l.length := by omega
    simp (disch := omega) only [if_pos, if_neg, w64, rdn, rd0, tn, sc, Option.bind_some, ↓reduceIte, Bool.false_eq_true, Bool.true_eq_false]
    exact Ev.now _
  | succ d ih =>
    intro i hd hi
    refine Ev.step (fun k => spec_StateOfFronts.l0.eq_2 ..) ?_
    have h := ih (i + 1) (by omega) (by omega)
    rw [mk_succ] at h
    have b := walkKind_bd (l := l) ha i
    have b3 := hf.2.2.1 i (by omega)
    have e1 : Int.tmod (walkKind a l i + G l i + 3) 3 = walkKind a l (i + 1) := tmod_nn (by omega)
    have e2 : spec_l1In.f a 0 2 = some true := by rw [spec_l1In_eq]; simp; omega
    simp (disch := omega) only [if_pos, if_neg, w64, rdn, rd0, tn, sc, Option.bind_some, ↓reduceIte, Bool.false_eq_true, Bool.true_eq_false]
    refine Ev.bind (spec_FrontsOk_ev l (by omega)) ?_
    simp only [hf, decide_true, e2, mk_length, Option.bind_some]
    simp (disch := omega) only [if_pos, if_neg, w64, rdn, rd0, tn, sc, Option.bind_some, ↓reduceIte, Bool.false_eq_true, Bool.true_eq_false]
    simp only [e1]
    exact h
theorem spec_StateOfFronts_ev (a : Int) (l : List Int) (hl : l.length ≤ 1048576) : Ev (fun k => spec_StateOfFronts.f k a l) (stateOfFronts a l) := by
  unfold spec_StateOfFronts.f stateOfFronts
  by_cases hf : FrontsP l
  · by_cases ha : 0 ≤ a ∧ a < 3
    · rw [if_pos ⟨hf, ha⟩]
      exact spec_StateOfFronts_l0 a l hf ha _ 0 rfl (by omega)
    · rw [if_neg (fun h => ha h.2)]
      have e2 : spec_l1In.f a 0 2 = some false := by rw [spec_l1In_eq]; simp; omega
      have := hf.1
      refine Ev.step (fun k => spec_StateOfFronts.l0.eq_2 ..) ?_
      simp (disch := omega) only [if_pos, if_neg, w64, rdn, rd0, tn, sc, Option.bind_some, ↓reduceIte, Bool.false_eq_true, Bool.true_eq_false]
      refine Ev.bind (spec_FrontsOk_ev l (by omega)) ?_
      simp only [hf, decide_true, e2, Option.bind_some]
      simp (disch := omega) only [if_pos, if_neg, w64, rdn, rd0, tn, sc, Option.bind_some, ↓reduceIte, Bool.false_eq_true, Bool.true_eq_false]
      exact Ev.now _
  · rw [if_neg (fun h => hf h.1)]
    refine Ev.step (fun k => spec_StateOfFronts.l0.eq_2 ..) ?_
    by_cases h0 : 0 < l.length
    · simp (disch := omega) only [if_pos, if_neg, w64, rdn, rd0, tn, sc, Option.bind_some, ↓reduceIte, Bool.false_eq_true, Bool.true_eq_false]
      refine Ev.bind (spec_FrontsOk_ev l (by omega)) ?_
      simp only [hf, decide_false]
      simp (disch := omega) only [if_pos, if_neg, w64, rdn, rd0, tn, sc, Option.bind_some, ↓reduceIte, Bool.false_eq_true, Bool.true_eq_false]
      exact Ev.now _
    · simp (disch := omega) only [if_pos, if_neg, w64, rdn, rd0, tn, sc, Option.bind_some, ↓reduceIte, Bool.false_eq_true, Bool.true_eq_false]
      exact Ev.now _
theorem stateOfFronts_length (a : Int) (l : List Int) : (stateOfFronts a l).length ≤ 6 := by
  unfold stateOfFronts
  split
  · rename_i h; rw [mk_length]; exact h.1.2.1
  · simp

theorem impl_FrontsOk_l0 (l : List Int) (hl : l.length ≤ 1048576) : ∀ (d : Nat) (i : Nat), l.length - i = d → i ≤ l.length → (∀ j, j < i → -1 ≤ G l j ∧ G l j ≤ 1) → Ev (fun k => impl_FrontsOk.l0 k l (sumN (G l) i) l (l.length : Int) (i : Int)) (decide (FrontsP l)) := by
  intro d
  induction d with
  | zero =>
    intro i hd hi hj
    refine Ev.step (fun k => impl_FrontsOk.l0.eq_2 ..) ?_
    obtain rfl : i = l.length := by omega
    by_cases h3 : 3 ≤ l.length
    · by_cases h6 : l.length ≤ 6
      · simp (disch := omega) only [if_pos, if_neg, w64, rdn, rd0, tn, sc, Option.bind_some, ↓reduceIte, Bool.false_eq_true, Bool.true_eq_false]
        rw [tmod3]
        refine Ev.val ?_
        simp only [FrontsP, h3, h6, true_and]
        rw [decide_eq_decide]
        exact ⟨fun e => ⟨fun i hi => hj i hi, e⟩, fun e => e.2⟩
      · simp (disch := omega) only [if_pos, if_neg, w64, rdn, rd0, tn, sc, Option.bind_some, ↓reduceIte, Bool.false_eq_true, Bool.true_eq_false]
        refine Ev.val ?_
        have : ¬ FrontsP l := fun p => h6 p.2.1
        simp [this]
    · simp (disch := omega) only [if_pos, if_neg, w64, rdn, rd0, tn, sc, Option.bind_some, ↓reduceIte, Bool.false_eq_true, Bool.true_eq_false]
      refine Ev.val ?_
      have : ¬ FrontsP l := fun p => h3 p.1
      simp [this]
  | succ d ih =>
    intro i hd hi hj
    refine Ev.step (fun k => impl_FrontsOk.l0.eq_2 ..) ?_
    have hb := sumN_bound (f := G l) (n := i) (b := 1) hj
    by_cases e0 : G l i < -1
    · simp (disch := omega) only [if_pos, if_neg, w64, rdn, rd0, tn, sc, Option.bind_some, ↓reduceIte, Bool.false_eq_true, Bool.true_eq_false]
      refine Ev.val ?_
      have : ¬ FrontsP l := fun p => by have := p.2.2.1 i (by omega); omega
      simp [this]
    · by_cases e1 : G l i > 1
      · simp (disch := omega) only [if_pos, if_neg, w64, rdn, rd0, tn, sc, Option.bind_some, ↓reduceIte, Bool.false_eq_true, Bool.true_eq_false]
        refine Ev.val ?_
        have : ¬ FrontsP l := fun p => by have := p.2.2.1 i (by omega); omega
        simp [this]
      · simp (disch := omega) only [if_pos, if_neg, w64, rdn, rd0, tn, sc, Option.bind_some, ↓reduceIte, Bool.false_eq_true, Bool.true_eq_false]
        refine ih (i + 1) (by omega) (by omega) ?_
        intro j hji
        by_cases e' : j = i
        · subst e'; omega
        · exact hj j (by omega)
theorem impl_FrontsOk_ev (l : List Int) (hl : l.length ≤ 1048576) : Ev (fun k => impl_FrontsOk.f k l) (decide (FrontsP l)) := by
  unfold impl_FrontsOk.f
  exact impl_FrontsOk_l0 l hl _ 0 rfl (by omega) (fun j h => by omega)

theorem impl_StateOfFronts_l0 (a : Int) (l : List Int) (hf : FrontsP l) (ha : 0 ≤ a ∧ a < 3) : ∀ (d : Nat) (i : Nat), l.length - 1 - i = d → i ≤ l.length - 1 →
    Ev (fun k => impl_StateOfFronts.l0 k (mk (i + 1) (walkKind a l)) (l.take (l.length - 1)) ((l.length - 1 : Nat) : Int) (i : Int)) (mk l.length (walkKind a l)) := by
  intro d
  have h6 := hf.2.1
  have h3 := hf.1
  have ht : (l.take (l.length - 1)).length = l.length - 1 := by simp
  induction d with
  | zero =>
    intro i hd hi
    refine Ev.step (fun k => impl_StateOfFronts.l0.eq_2 ..) ?_
    simp (disch := omega) only [if_pos, if_neg, w64, rdn, rd0, tn, sc, Option.bind_some, ↓reduceIte, Bool.false_eq_true, Bool.true_eq_false]
    have : i + 1 = l.length := by omega
    rw [this]
    exact Ev.now _
  | succ d ih =>
    intro i hd hi
    refine Ev.step (fun k => impl_StateOfFronts.l0.eq_2 ..) ?_
    have h := ih (i + 1) (by omega) (by omega)
    rw [mk_succ] at h
    have b := walkKind_bd (l := l) ha i
    have b3 := hf.2.2.1 i (by omega)
    have e1 : Int.tmod (walkKind a l i + G l i + 3) 3 = walkKind a l (i + 1) := tmod_nn (by omega)
    have e2 : wrap64 (((i + 1 : Nat) : Int) - 1) = (i : Int) := by rw [w64 (by omega) (by omega)]; omega
    have e3 : G (mk (i + 1) (walkKind a l)) i = walkKind a l i := G_mk _ (by omega)
    have e4 : G (l.take (l.length - 1)) i = G l i := G_take (by omega)
    simp only [mk_length, ht, e2, rdn, e3, e4]
    simp (disch := omega) only [if_pos, if_neg, w64, rdn, rd0, tn, sc, Option.bind_some, ↓reduceIte, Bool.false_eq_true, Bool.true_eq_false]
    simp only [e1]
    exact h
theorem stateOfFronts_no {a : Int} {l : List Int} (h : ¬ (FrontsP l ∧ 0 ≤ a ∧ a < 3)) : stateOfFronts a l = [] := if_neg h
theorem stateOfFronts_yes {a : Int} {l : List Int} (h : FrontsP l ∧ 0 ≤ a ∧ a < 3) : stateOfFronts a l = mk l.length (walkKind a l) := if_pos h
theorem impl_StateOfFronts_ev (a : Int) (l : List Int) (hl : l.length ≤ 1048576) : Ev (fun k => impl_StateOfFronts.f k a l) (stateOfFronts a l) := by
  unfold impl_StateOfFronts.f
  refine Ev.bind (impl_FrontsOk_ev l hl) ?_
  by_cases hf : FrontsP l
  · simp only [hf, decide_true]
    have h3 := hf.1
    have h6 := hf.2.1
    by_cases h0 : a < 0
    · rw [stateOfFronts_no (by omega)]
      simp (disch := omega) only [if_pos, if_neg, w64, rdn, rd0, tn, sc, Option.bind_some, ↓reduceIte, Bool.false_eq_true, Bool.true_eq_false]
      refine Ev.step (fun k => impl_StateOfFronts.j0.eq_2 ..) ?_
      simp (disch := omega) only [if_pos, if_neg, w64, rdn, rd0, tn, sc, Option.bind_some, ↓reduceIte, Bool.false_eq_true, Bool.true_eq_false]
      exact Ev.now _
    · by_cases h3' : a ≥ 3
      · have : decide (a ≥ 3) = true := by simp; omega
        rw [stateOfFronts_no (by omega)]
        simp only [this]
        simp (disch := omega) only [if_pos, if_neg, w64, rdn, rd0, tn, sc, Option.bind_some, ↓reduceIte, Bool.false_eq_true, Bool.true_eq_false]
        refine Ev.step (fun k => impl_StateOfFronts.j0.eq_2 ..) ?_
        simp (disch := omega) only [if_pos, if_neg, w64, rdn, rd0, tn, sc, Option.bind_some, ↓reduceIte, Bool.false_eq_true, Bool.true_eq_false]
        exact Ev.now _
      · have e : decide (a ≥ 3) = false := by simp; omega
        have e2 : wrap64 ((l.length : Int) - 1) = ((l.length - 1 : Nat) : Int) := by rw [w64 (by omega) (by omega)]; omega
        have ht : (l.take (l.length - 1)).length = l.length - 1 := by simp
        rw [stateOfFronts_yes ⟨hf, by omega, by omega⟩]
        simp only [e]
        simp (disch := omega) only [if_pos, if_neg, w64, rdn, rd0, tn, sc, Option.bind_some, ↓reduceIte, Bool.false_eq_true, Bool.true_eq_false]
        refine Ev.step (fun k => impl_StateOfFronts.j0.eq_2 ..) ?_
        simp only [e2]
        simp (disch := omega) only [if_pos, if_neg, w64, rdn, rd0, tn, sc, Option.bind_some, ↓reduceIte, Bool.false_eq_true, Bool.true_eq_false]
        simp only [ht]
        exact impl_StateOfFronts_l0 a l hf ⟨by omega, by omega⟩ _ 0 rfl (by omega)
  · rw [stateOfFronts_no (fun h => hf h.1)]
    simp only [hf, decide_false]
    simp (disch := omega) only [if_pos, if_neg, w64, rdn, rd0, tn, sc, Option.bind_some, ↓reduceIte, Bool.false_eq_true, Bool.true_eq_false]
    refine Ev.step (fun k => impl_StateOfFronts.j0.eq_2 ..) ?_
    simp (disch := omega) only [if_pos, if_neg, w64, rdn, rd0, tn, sc, Option.bind_some, ↓reduceIte, Bool.false_eq_true, Bool.true_eq_false]
    exact Ev.now _

theorem laws_markIntS_l0 (n : Nat) (hn : n ≤ 1048576) (m : Nat) (hm : m ≤ 1048576) : ∀ (d : Nat) (x : List Int) (i : Nat), n - i = d → i ≤ n → x.length = n → (∀ j, j < i → G x j = (m : Int) + j) → Ev (fun k => laws_markIntS.l0 k x ((m + i : Nat) : Int) (i : Int)) (((m + n : Nat) : Int), mk n (fun j => (m : Int) + j)) := by
  intro d
  induction d with
  | zero =>
    intro x i hd hi hx hj
    refine Ev.step (fun k => laws_markIntS.l0.eq_2 ..) ?_
    simp (disch := omega) only [if_pos, if_neg, w64, rdn, rd0, tn, sc, Option.bind_some, ↓reduceIte, Bool.false_eq_true, Bool.true_eq_false]
    obtain rfl : i = n := by omega
    exact Ev.val (by rw [Prod.mk.injEq]; exact ⟨rfl, mk_eq_iff.2 ⟨hx, hj⟩⟩)
  | succ d ih =>
    intro x i hd hi hx hj
    refine Ev.step (fun k => laws_markIntS.l0.eq_2 ..) ?_
    simp (disch := omega) only [if_pos, if_neg, w64, rdn, rd0, tn, sc, Option.bind_some, ↓reduceIte, Bool.false_eq_true, Bool.true_eq_false]
    refine ih _ (i + 1) (by omega) (by omega) (by simp [hx]) ?_
    intro j hji
    by_cases e : j = i
    · subst e; rw [G_set_self _ (by omega)]; simp
    · rw [G_set_ne _ e]; exact hj j (by omega)
theorem laws_markIntS_ev (x : List Int) (hn : x.length ≤ 1048576) : Ev (fun k => laws_markIntS.f k x 1) (((1 + x.length : Nat) : Int), mk x.length (fun j => (1 : Int) + j)) := by
  unfold laws_markIntS.f
  exact laws_markIntS_l0 x.length hn 1 (by omega) _ x 0 rfl (by omega) rfl (fun j h => by omega)
theorem laws_markIntS_ev2 (x : List Int) (m : Nat) (hm : m ≤ 1048576) (hn : x.length ≤ 1048576) : Ev (fun k => laws_markIntS.f k x (m : Int)) (((m + x.length : Nat) : Int), mk x.length (fun j => (m : Int) + j)) := by
  unfold laws_markIntS.f
  exact laws_markIntS_l0 x.length hn m hm _ x 0 rfl (by omega) rfl (fun j h => by omega)

theorem laws_heldIntS_l0 (n : Nat) (hn : n ≤ 1048576) : ∀ (d : Nat) (i : Nat), n - i = d → i ≤ n → Ev (fun k => laws_heldIntS.l0 k (mk n (fun j => (1 : Int) + j)) ((1 + i : Nat) : Int) (i : Int)) ((1 + n : Nat) : Int) := by
  intro d
  induction d with
  | zero =>
    intro i hd hi
    refine Ev.step (fun k => laws_heldIntS.l0.eq_2 ..) ?_
    simp only [mk_length]
    simp (disch := omega) only [if_pos, if_neg, w64, rdn, rd0, tn, sc, Option.bind_some, ↓reduceIte, Bool.false_eq_true, Bool.true_eq_false]
    obtain rfl : i = n := by omega
    exact Ev.now _
  | succ d ih =>
    intro i hd hi
    refine Ev.step (fun k => laws_heldIntS.l0.eq_2 ..) ?_
    have e : G (mk n (fun j => (1 : Int) + j)) i = ((1 + i : Nat) : Int) := by rw [G_mk _ (by omega)]; omega
    simp only [mk_length]
    simp (disch := omega) only [if_pos, if_neg, w64, rdn, rd0, tn, sc, Option.bind_some, ↓reduceIte, Bool.false_eq_true, Bool.true_eq_false]
    exact ih (i + 1) (by omega) (by omega)
theorem laws_heldIntS_ev (n : Nat) (hn : n ≤ 1048576) : Ev (fun k => laws_heldIntS.f k (mk n (fun j => (1 : Int) + j)) 1) ((1 + n : Nat) : Int) := by
  unfold laws_heldIntS.f
  exact laws_heldIntS_l0 n hn _ 0 rfl (by omega)

theorem FnExactStateOfFronts_j0 (a : Int) (l : List Int) (hl : l.length ≤ 1048576) : Ev (fun k => laws_FnExactStateOfFronts.j0 k a l (stateOfFronts a l) (stateOfFronts a l) false) true := by
  have hg : ((stateOfFronts a l)).length ≤ 1048576 := by have := stateOfFronts_length a l; omega
  refine Ev.step (fun k => laws_FnExactStateOfFronts.j0.eq_2 ..) ?_
  simp (disch := omega) only [if_pos, if_neg, w64, rdn, rd0, tn, sc, Option.bind_some, ↓reduceIte, Bool.false_eq_true, Bool.true_eq_false]
  refine Ev.bind (laws_markIntS_ev _ hg) ?_
  refine Ev.bind (laws_heldIntS_ev _ hg) ?_
  simp (disch := omega) only [if_pos, if_neg, w64, rdn, rd0, tn, sc, Option.bind_some, ↓reduceIte, Bool.false_eq_true, Bool.true_eq_false]
  refine Ev.bind (laws_toIntS_ev l hl) ?_
  refine Ev.bind (impl_StateOfFronts_ev a l hl) ?_
  refine Ev.bind (laws_eqIntS_self _ hg) ?_
  simp (disch := omega) only [if_pos, if_neg, w64, rdn, rd0, tn, sc, Option.bind_some, ↓reduceIte, Bool.false_eq_true, Bool.true_eq_false]
  refine Ev.bind (laws_heldIntS_ev _ hg) ?_
  simp (disch := omega) only [if_pos, if_neg, w64, rdn, rd0, tn, sc, Option.bind_some, ↓reduceIte, Bool.false_eq_true, Bool.true_eq_false]
  exact Ev.now _
theorem FnExactStateOfFronts : laws_FnExactStateOfFronts.Pure := by
  intro a l _ _ _ _
  refine Ev.rounds (r := true) ?_
  unfold laws_FnExactStateOfFronts.f
  by_cases hl : l.length ≤ 1048576
  rotate_left
  · simp (disch := omega) only [if_pos, if_neg, w64, rdn, rd0, tn, sc, Option.bind_some, ↓reduceIte, Bool.false_eq_true, Bool.true_eq_false]
    exact Ev.now _
  simp (disch := omega) only [if_pos, if_neg, w64, rdn, rd0, tn, sc, Option.bind_some, ↓reduceIte, Bool.false_eq_true, Bool.true_eq_false]
  refine Ev.bind (laws_toIntS_ev l hl) ?_
  refine Ev.bind (spec_StateOfFronts_ev a l hl) ?_
  refine Ev.bind (laws_toIntS_ev l hl) ?_
  refine Ev.bind (impl_StateOfFronts_ev a l hl) ?_
  have hg : ((stateOfFronts a l)).length ≤ 1048576 := by have := stateOfFronts_length a l; omega
  refine Ev.bind (laws_eqIntS_self _ hg) ?_
  simp (disch := omega) only [if_pos, if_neg, w64, rdn, rd0, tn, sc, Option.bind_some, ↓reduceIte, Bool.false_eq_true, Bool.true_eq_false]
  refine Ev.bind (laws_toIntS_ev l hl) ?_
  refine Ev.bind (laws_eqIntS_self _ hl) ?_
  simp (disch := omega) only [if_pos, if_neg, w64, rdn, rd0, tn, sc, Option.bind_some, ↓reduceIte, Bool.false_eq_true, Bool.true_eq_false]
  refine Ev.bind (laws_markIntS_ev _ hl) ?_
  simp (disch := omega) only [if_pos, if_neg, w64, rdn, rd0, tn, sc, Option.bind_some, ↓reduceIte, Bool.false_eq_true, Bool.true_eq_false]
  refine Ev.bind (laws_eqIntS_self _ hg) ?_
  simp only [Bool.not_true]
  exact FnExactStateOfFronts_j0 a l hl

end Go.Proofs.Ytppfjachcleolaa.Pure
