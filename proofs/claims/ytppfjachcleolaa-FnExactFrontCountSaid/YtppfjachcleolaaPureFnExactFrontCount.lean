/- Proved: the statement FnExactFrontCount, for every input, without further conditions. -/
import Derived.Test.YtppfjachcleolaaPFnExactFrontCountx2
import Derived.Test.YtppfjachcleolaaBase
namespace Go.Proofs.Ytppfjachcleolaa.Pure
open Go.RowKit Go.Proofs.Ytppfjachcleolaa.PFnExactFrontCount Go.Proofs.YtppfjachcleolaaW.PrintWords Go.Proofs.YtppfjachcleolaaW.PrintLast Go.Proofs.Ytppfjachcleolaa.B Go.Proofs.Ytppfjachcleolaa.C
set_option linter.unusedSimpArgs false
set_option linter.unusedVariables false

theorem laws_toIntS_l0 (l : List Int) (hl : l.length ≤ 1048576) : ∀ (d : Nat) (x : List Int) (i : Nat), l.length - i = d → i ≤ l.length → x.length = l.length → (∀ j, j < i → G x j = G l j) → Ev (fun k => laws_toIntS.l0 k l x (i : Int)) l := by
  intro d
  induction d with
  | zero =>
    intro x i hd hi hx hj
    refine Ev.step (fun k => laws_toIntS.l0.eq_2 ..) ?_
    simp (disch := omega) only [if_pos, if_neg, w64, rdn, rd0, tn, sc, Option.bind_some, ↓reduceIte, Bool.false_eq_true, Bool.true_eq_false]
    exact Ev.val (ext hx (fun j h => hj j (by omega)))
  | succ d ih =>
    intro x i hd hi hx hj
    refine Ev.step (fun k => laws_toIntS.l0.eq_2 ..) ?_
    simp (disch := omega) only [if_pos, if_neg, w64, rdn, rd0, tn, sc, Option.bind_some, ↓reduceIte, Bool.false_eq_true, Bool.true_eq_false]
    refine ih _ _ (by omega) (by omega) (by simp [hx]) ?_
    intro j hji
    by_cases e : j = i
    · subst e; rw [G_set_self _ (by omega)]
    · rw [G_set_ne _ e]; exact hj j (by omega)
theorem laws_toIntS_ev (l : List Int) (hl : l.length ≤ 1048576) : Ev (fun k => laws_toIntS.f k l) l := by
  unfold laws_toIntS.f
  simp (disch := omega) only [if_pos, if_neg, w64, rdn, rd0, tn, sc, Option.bind_some, ↓reduceIte, Bool.false_eq_true, Bool.true_eq_false]
  exact laws_toIntS_l0 l hl _ _ 0 rfl (by omega) (by simp) (fun j h => by omega)

theorem laws_eqIntS_l0 (a b : List Int) (hl : a.length ≤ 1048576) (hab : a.length = b.length) : ∀ (d : Nat) (i : Nat), a.length - i = d → i ≤ a.length → (∀ j, j < i → G a j = G b j) → Ev (fun k => laws_eqIntS.l0 k a b (i : Int)) (decide (a = b)) := by
  intro d
  induction d with
  | zero =>
    intro i hd hi hj
    refine Ev.step (fun k => laws_eqIntS.l0.eq_2 ..) ?_
    simp (disch := omega) only [if_pos, if_neg, w64, rdn, rd0, tn, sc, Option.bind_some, ↓reduceIte, Bool.false_eq_true, Bool.true_eq_false]
    have e : a = b := ext hab (fun j h => hj j (by omega))
    exact Ev.val (by simp [e])
  | succ d ih =>
    intro i hd hi hj
    refine Ev.step (fun k => laws_eqIntS.l0.eq_2 ..) ?_
    by_cases e : G a i = G b i
    · simp (disch := omega) only [if_pos, if_neg, w64, rdn, rd0, tn, sc, Option.bind_some, ↓reduceIte, Bool.false_eq_true, Bool.true_eq_false]
      refine ih _ (by omega) (by omega) ?_
      intro j hji
      by_cases e' : j = i
      · subst e'; exact e
      · exact hj j (by omega)
    · simp (disch := omega) only [if_pos, if_neg, w64, rdn, rd0, tn, sc, Option.bind_some, ↓reduceIte, Bool.false_eq_true, Bool.true_eq_false]
      have : a ≠ b := fun h => e (by rw [h])
      exact Ev.val (by simp [this])
theorem laws_eqIntS_ev (a b : List Int) (hl : a.length ≤ 1048576) : Ev (fun k => laws_eqIntS.f k a b) (decide (a = b)) := by
  unfold laws_eqIntS.f
  by_cases hab : a.length = b.length
  · simp (disch := omega) only [if_pos, if_neg, w64, rdn, rd0, tn, sc, Option.bind_some, ↓reduceIte, Bool.false_eq_true, Bool.true_eq_false]
    exact laws_eqIntS_l0 a b hl hab _ 0 rfl (by omega) (fun j h => by omega)
  · simp (disch := omega) only [if_pos, if_neg, w64, rdn, rd0, tn, sc, Option.bind_some, ↓reduceIte, Bool.false_eq_true, Bool.true_eq_false]
    have : a ≠ b := fun h => hab (by rw [h])
    exact Ev.val (by simp [this])
theorem laws_eqIntS_self (a : List Int) (hl : a.length ≤ 1048576) : Ev (fun k => laws_eqIntS.f k a a) true := by
  have h := laws_eqIntS_ev a a hl
  simpa using h

theorem spec_l1In_eq (a b c : Int) : spec_l1In.f a b c = some (decide (b ≤ a ∧ a ≤ c)) := by
  unfold spec_l1In.f
  by_cases h : b ≤ a <;> simp [h]

theorem spec_FrontsOk_l0 (l : List Int) (hl : l.length ≤ 1048576) : ∀ (d : Nat) (i : Nat), l.length - i = d → i ≤ l.length → (∀ j, j < i → -1 ≤ G l j ∧ G l j ≤ 1) → Ev (fun k => spec_FrontsOk.l0 k l (sumN (G l) i) (i : Int)) (decide (FrontsP l)) := by
  intro d
  induction d with
  | zero =>
    intro i hd hi hj
    refine Ev.step (fun k => spec_FrontsOk.l0.eq_2 ..) ?_
    simp only [spec_l1In_eq, Option.bind_some]
    obtain rfl : i = l.length := by omega
    by_cases h : 3 ≤ l.length ∧ l.length ≤ 6
    · have h' : (3 : Int) ≤ (l.length : Int) ∧ (l.length : Int) ≤ 6 := by omega
      simp only [h', and_self, decide_true]
      simp (disch := omega) only [if_pos, if_neg, w64, rdn, rd0, tn, sc, Option.bind_some, ↓reduceIte, Bool.false_eq_true, Bool.true_eq_false]
      rw [tmod3]
      refine Ev.val ?_
      simp only [FrontsP, h.1, h.2, true_and]
      rw [decide_eq_decide]
      exact ⟨fun e => ⟨fun i hi => hj i hi, e⟩, fun e => e.2⟩
    · have h' : ¬ ((3 : Int) ≤ (l.length : Int) ∧ (l.length : Int) ≤ 6) := by omega
      simp only [h', decide_false]
      simp (disch := omega) only [if_pos, if_neg, w64, rdn, rd0, tn, sc, Option.bind_some, ↓reduceIte, Bool.false_eq_true, Bool.true_eq_false]
      refine Ev.val ?_
      have : ¬ FrontsP l := fun p => h ⟨p.1, p.2.1⟩
      simp [this]
  | succ d ih =>
    intro i hd hi hj
    refine Ev.step (fun k => spec_FrontsOk.l0.eq_2 ..) ?_
    have hb := sumN_bound (f := G l) (n := i) (b := 1) hj
    by_cases e : -1 ≤ G l i ∧ G l i ≤ 1
    · have e1 : spec_l1In.f (G l i) (-1) 1 = some true := by rw [spec_l1In_eq]; simp [e]
      simp (disch := omega) only [if_pos, if_neg, w64, rdn, rd0, tn, sc, Option.bind_some, ↓reduceIte, Bool.false_eq_true, Bool.true_eq_false]
      simp only [e1, Option.bind_some]
      simp (disch := omega) only [if_pos, if_neg, w64, rdn, rd0, tn, sc, Option.bind_some, ↓reduceIte, Bool.false_eq_true, Bool.true_eq_false]
      refine ih (i + 1) (by omega) (by omega) ?_
      intro j hji
      by_cases e' : j = i
      · subst e'; exact e
      · exact hj j (by omega)
    · have e1 : spec_l1In.f (G l i) (-1) 1 = some false := by rw [spec_l1In_eq]; simp only [e, decide_false]
      simp (disch := omega) only [if_pos, if_neg, w64, rdn, rd0, tn, sc, Option.bind_some, ↓reduceIte, Bool.false_eq_true, Bool.true_eq_false]
      simp only [e1, Option.bind_some]
      simp (disch := omega) only [if_pos, if_neg, w64, rdn, rd0, tn, sc, Option.bind_some, ↓reduceIte, Bool.false_eq_true, Bool.true_eq_false]
      refine Ev.val ?_
      have : ¬ FrontsP l := fun p => e (p.2.2.1 i (by omega))
      simp [this]
theorem spec_FrontsOk_ev (l : List Int) (hl : l.length ≤ 1048576) : Ev (fun k => spec_FrontsOk.f k l) (decide (FrontsP l)) := by
  unfold spec_FrontsOk.f
  exact spec_FrontsOk_l0 l hl _ 0 rfl (by omega) (fun j h => by omega)

/-- What FrontCount tells. -/
def frontCount (l : List Int) (s : Int) : Int := if FrontsP l ∧ (s = 1 ∨ s = -1) then countN (G l) s l.length else -1
theorem frontCount_no {l : List Int} {s : Int} (h : ¬ (FrontsP l ∧ (s = 1 ∨ s = -1))) : frontCount l s = -1 := if_neg h
theorem frontCount_yes {l : List Int} {s : Int} (h : FrontsP l ∧ (s = 1 ∨ s = -1)) : frontCount l s = countN (G l) s l.length := if_pos h
theorem spec_FrontCount_l0 (l : List Int) (s : Int) (hl : l.length ≤ 1048576) : ∀ (d : Nat) (i : Nat), l.length - i = d → i ≤ l.length → Ev (fun k => spec_FrontCount.l0 k l s (countN (G l) s i) (i : Int)) (countN (G l) s l.length) := by
  intro d
  induction d with
  | zero =>
    intro i hd hi
    refine Ev.step (fun k => spec_FrontCount.l0.eq_2 ..) ?_
    obtain rfl : i = l.length := by omega
    simp (disch := omega) only [if_pos, if_neg, w64, rdn, rd0, tn, sc, Option.bind_some, ↓reduceIte, Bool.false_eq_true, Bool.true_eq_false]
    exact Ev.now _
  | succ d ih =>
    intro i hd hi
    refine Ev.step (fun k => spec_FrontCount.l0.eq_2 ..) ?_
    have hb := countN_bound (G l) s i
    have h := ih (i + 1) (by omega) (by omega)
    simp only [countN] at h
    by_cases e : G l i = s
    · rw [if_pos e] at h
      simp (disch := omega) only [if_pos, if_neg, w64, rdn, rd0, tn, sc, Option.bind_some, ↓reduceIte, Bool.false_eq_true, Bool.true_eq_false]
      exact h
    · rw [if_neg e, Int.add_zero] at h
      simp (disch := omega) only [if_pos, if_neg, w64, rdn, rd0, tn, sc, Option.bind_some, ↓reduceIte, Bool.false_eq_true, Bool.true_eq_false]
      exact h
theorem spec_FrontCount_ev (l : List Int) (s : Int) (hl : l.length ≤ 1048576) : Ev (fun k => spec_FrontCount.f k l s) (frontCount l s) := by
  unfold spec_FrontCount.f
  refine Ev.bind (spec_FrontsOk_ev l hl) ?_
  by_cases hf : FrontsP l
  · simp only [hf, decide_true]
    by_cases h1 : s = 1
    · rw [frontCount_yes ⟨hf, Or.inl h1⟩]
      simp (disch := omega) only [if_pos, if_neg, w64, rdn, rd0, tn, sc, Option.bind_some, ↓reduceIte, Bool.false_eq_true, Bool.true_eq_false]
      refine Ev.step (fun k => spec_FrontCount.j0.eq_2 ..) ?_
      simp (disch := omega) only [if_pos, if_neg, w64, rdn, rd0, tn, sc, Option.bind_some, ↓reduceIte, Bool.false_eq_true, Bool.true_eq_false]
      exact spec_FrontCount_l0 l s hl _ 0 rfl (by omega)
    · by_cases h2 : s = -1
      · have h3 : (s != -1) = false := by simp [h2]
        rw [frontCount_yes ⟨hf, Or.inr h2⟩]
        simp only [h3]
        simp (disch := omega) only [if_pos, if_neg, w64, rdn, rd0, tn, sc, Option.bind_some, ↓reduceIte, Bool.false_eq_true, Bool.true_eq_false]
        refine Ev.step (fun k => spec_FrontCount.j0.eq_2 ..) ?_
        simp (disch := omega) only [if_pos, if_neg, w64, rdn, rd0, tn, sc, Option.bind_some, ↓reduceIte, Bool.false_eq_true, Bool.true_eq_false]
        exact spec_FrontCount_l0 l s hl _ 0 rfl (by omega)
      · have h3 : (s != -1) = true := by simp [h2]
        rw [frontCount_no (by omega)]
        simp only [h3]
        simp (disch := omega) only [if_pos, if_neg, w64, rdn, rd0, tn, sc, Option.bind_some, ↓reduceIte, Bool.false_eq_true, Bool.true_eq_false]
        refine Ev.step (fun k => spec_FrontCount.j0.eq_2 ..) ?_
        simp (disch := omega) only [if_pos, if_neg, w64, rdn, rd0, tn, sc, Option.bind_some, ↓reduceIte, Bool.false_eq_true, Bool.true_eq_false]
        exact Ev.now _
  · rw [frontCount_no (fun h => hf h.1)]
    simp only [hf, decide_false]
    simp (disch := omega) only [if_pos, if_neg, w64, rdn, rd0, tn, sc, Option.bind_some, ↓reduceIte, Bool.false_eq_true, Bool.true_eq_false]
    refine Ev.step (fun k => spec_FrontCount.j0.eq_2 ..) ?_
    simp (disch := omega) only [if_pos, if_neg, w64, rdn, rd0, tn, sc, Option.bind_some, ↓reduceIte, Bool.false_eq_true, Bool.true_eq_false]
    exact Ev.now _

theorem impl_FrontsOk_l0 (l : List Int) (hl : l.length ≤ 1048576) : ∀ (d : Nat) (i : Nat), l.length - i = d → i ≤ l.length → (∀ j, j < i → -1 ≤ G l j ∧ G l j ≤ 1) → Ev (fun k => impl_FrontsOk.l0 k l (sumN (G l) i) l (l.length : Int) (i : Int)) (decide (FrontsP l)) := by
  intro d
  induction d with
  | zero =>
    intro i hd hi hj
    refine Ev.step (fun k => impl_FrontsOk.l0.eq_2 ..) ?_
    obtain rfl : i = l.length := by omega
    by_cases h3 : 3 ≤ l.length
    · by_cases h6 : l.length ≤ 6
      · simp (disch := omega) only [if_pos, if_neg, w64, rdn, rd0, tn, sc, Option.bind_some, ↓reduceIte, Bool.false_eq_true, Bool.true_eq_false]
        rw [tmod3]
        refine Ev.val ?_
        simp only [FrontsP, h3, h6, true_and]
        rw [decide_eq_decide]
        exact ⟨fun e => ⟨fun i hi => hj i hi, e⟩, fun e => e.2⟩
      · simp (disch := omega) only [if_pos, if_neg, w64, rdn, rd0, tn, sc, Option.bind_some, ↓reduceIte, Bool.false_eq_true, Bool.true_eq_false]
        refine Ev.val ?_
        have : ¬ FrontsP l := fun p => h6 p.2.1
        simp [this]
    · simp (disch := omega) only [if_pos, if_neg, w64, rdn, rd0, tn, sc, Option.bind_some, ↓reduceIte, Bool.false_eq_true, Bool.true_eq_false]
      refine Ev.val ?_
      have : ¬ FrontsP l := fun p => h3 p.1
      simp [this]
  | succ d ih =>
    intro i hd hi hj
    refine Ev.step (fun k => impl_FrontsOk.l0.eq_2 ..) ?_
    have hb := sumN_bound (f := G l) (n := i) (b := 1) hj
    by_cases e0 : G l i < -1
    · simp (disch := omega) only [if_pos, if_neg, w64, rdn, rd0, tn, sc, Option.bind_some, ↓reduceIte, Bool.false_eq_true, Bool.true_eq_false]
      refine Ev.val ?_
      have : ¬ FrontsP l := fun p => by have := p.2.2.1 i (by omega); omega
      simp [this]
    · by_cases e1 : G l i > 1
      · simp (disch := omega) only [if_pos, if_neg, w64, rdn, rd0, tn, sc, Option.bind_some, ↓reduceIte, Bool.false_eq_true, Bool.true_eq_false]
        refine Ev.val ?_
        have : ¬ FrontsP l := fun p => by have := p.2.2.1 i (by omega); omega
        simp [this]
      · simp (disch := omega) only [if_pos, if_neg, w64, rdn, rd0, tn, sc, Option.bind_some, ↓reduceIte, Bool.false_eq_true, Bool.true_eq_false]
        refine ih (i + 1) (by omega) (by omega) ?_
        intro j hji
        by_cases e' : j = i
        · subst e'; omega
        · exact hj j (by omega)
theorem impl_FrontsOk_ev (l : List Int) (hl : l.length ≤ 1048576) : Ev (fun k => impl_FrontsOk.f k l) (decide (FrontsP l)) := by
  unfold impl_FrontsOk.f
  exact impl_FrontsOk_l0 l hl _ 0 rfl (by omega) (fun j h => by omega)

theorem impl_FrontCount_l0 (l : List Int) (s : Int) (hl : l.length ≤ 1048576) : ∀ (d : Nat) (i : Nat), l.length - i = d → i ≤ l.length → Ev (fun k => impl_FrontCount.l0 k s (countN (G l) s i) l (l.length : Int) (i : Int)) (countN (G l) s l.length) := by
  intro d
  induction d with
  | zero =>
    intro i hd hi
    refine Ev.step (fun k => impl_FrontCount.l0.eq_2 ..) ?_
    obtain rfl : i = l.length := by omega
    simp (disch := omega) only [if_pos, if_neg, w64, rdn, rd0, tn, sc, Option.bind_some, ↓reduceIte, Bool.false_eq_true, Bool.true_eq_false]
    exact Ev.now _
  | succ d ih =>
    intro i hd hi
    refine Ev.step (fun k => impl_FrontCount.l0.eq_2 ..) ?_
    have hb := countN_bound (G l) s i
    have h := ih (i + 1) (by omega) (by omega)
    simp only [countN] at h
    by_cases e : G l i = s
    · rw [if_pos e] at h
      simp (disch := omega) only [if_pos, if_neg, w64, rdn, rd0, tn, sc, Option.bind_some, ↓reduceIte, Bool.false_eq_true, Bool.true_eq_false]
      exact h
    · rw [if_neg e, Int.add_zero] at h
      simp (disch := omega) only [if_pos, if_neg, w64, rdn, rd0, tn, sc, Option.bind_some, ↓reduceIte, Bool.false_eq_true, Bool.true_eq_false]
      exact h
theorem impl_FrontCount_ev (l : List Int) (s : Int) (hl : l.length ≤ 1048576) : Ev (fun k => impl_FrontCount.f k l s) (frontCount l s) := by
  unfold impl_FrontCount.f
  refine Ev.bind (impl_FrontsOk_ev l hl) ?_
  by_cases hf : FrontsP l
  · simp only [hf, decide_true]
    by_cases h1 : s = 1
    · rw [frontCount_yes ⟨hf, Or.inl h1⟩]
      simp (disch := omega) only [if_pos, if_neg, w64, rdn, rd0, tn, sc, Option.bind_some, ↓reduceIte, Bool.false_eq_true, Bool.true_eq_false]
      refine Ev.step (fun k => impl_FrontCount.j0.eq_2 ..) ?_
      simp (disch := omega) only [if_pos, if_neg, w64, rdn, rd0, tn, sc, Option.bind_some, ↓reduceIte, Bool.false_eq_true, Bool.true_eq_false]
      exact impl_FrontCount_l0 l s hl _ 0 rfl (by omega)
    · by_cases h2 : s = -1
      · have h3 : (s != -1) = false := by simp [h2]
        rw [frontCount_yes ⟨hf, Or.inr h2⟩]
        simp only [h3]
        simp (disch := omega) only [if_pos, if_neg, w64, rdn, rd0, tn, sc, Option.bind_some, ↓reduceIte, Bool.false_eq_true, Bool.true_eq_false]
        refine Ev.step (fun k => impl_FrontCount.j0.eq_2 ..) ?_
        simp (disch := omega) only [if_pos, if_neg, w64, rdn, rd0, tn, sc, Option.bind_some, ↓reduceIte, Bool.false_eq_true, Bool.true_eq_false]
        exact impl_FrontCount_l0 l s hl _ 0 rfl (by omega)
      · have h3 : (s != -1) = true := by simp [h2]
        rw [frontCount_no (by omega)]
        simp only [h3]
        simp (disch := omega) only [if_pos, if_neg, w64, rdn, rd0, tn, sc, Option.bind_some, ↓reduceIte, Bool.false_eq_true, Bool.true_eq_false]
        refine Ev.step (fun k => impl_FrontCount.j0.eq_2 ..) ?_
        simp (disch := omega) only [if_pos, if_neg, w64, rdn, rd0, tn, sc, Option.bind_some, ↓reduceIte, Bool.false_eq_true, Bool.true_eq_false]
        exact Ev.now _
  · rw [frontCount_no (fun h => hf h.1)]
    simp only [hf, decide_false]
    simp (disch := omega) only [if_pos, if_neg, w64, rdn, rd0, tn, sc, Option.bind_some, ↓reduceIte, Bool.false_eq_true, Bool.true_eq_false]
    refine Ev.step (fun k => impl_FrontCount.j0.eq_2 ..) ?_
    simp (disch := omega) only [if_pos, if_neg, w64, rdn, rd0, tn, sc, Option.bind_some, ↓reduceIte, Bool.false_eq_true, Bool.true_eq_false]
    exact Ev.now _

theorem FnExactFrontCount : laws_FnExactFrontCount.Pure := by
  intro l a _ _ _ _
  refine Ev.rounds (r := true) ?_
  unfold laws_FnExactFrontCount.f
  by_cases hl : l.length ≤ 1048576
  rotate_left
  · simp (disch := omega) only [if_pos, if_neg, w64, rdn, rd0, tn, sc, Option.bind_some, ↓reduceIte, Bool.false_eq_true, Bool.true_eq_false]
    exact Ev.now _
  simp (disch := omega) only [if_pos, if_neg, w64, rdn, rd0, tn, sc, Option.bind_some, ↓reduceIte, Bool.false_eq_true, Bool.true_eq_false]
  refine Ev.bind (laws_toIntS_ev l hl) ?_
  refine Ev.bind (spec_FrontCount_ev l a hl) ?_
  refine Ev.bind (laws_toIntS_ev l hl) ?_
  refine Ev.bind (impl_FrontCount_ev l a hl) ?_
  simp only [bne_self_eq_false]
  simp (disch := omega) only [if_pos, if_neg, w64, rdn, rd0, tn, sc, Option.bind_some, ↓reduceIte, Bool.false_eq_true, Bool.true_eq_false]
  refine Ev.bind (laws_toIntS_ev l hl) ?_
  refine Ev.bind (laws_eqIntS_self _ hl) ?_
  simp (disch := omega) only [if_pos, if_neg, w64, rdn, rd0, tn, sc, Option.bind_some, ↓reduceIte, Bool.false_eq_true, Bool.true_eq_false]
  exact Ev.now _

end Go.Proofs.Ytppfjachcleolaa.Pure
