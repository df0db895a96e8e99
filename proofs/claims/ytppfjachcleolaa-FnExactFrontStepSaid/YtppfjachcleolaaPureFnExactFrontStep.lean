/- Proved: the statement FnExactFrontStep, for every input, without further conditions. -/
import Derived.Test.YtppfjachcleolaaPFnExactFrontStepx4
import Derived.Test.YtppfjachcleolaaBase
namespace Go.Proofs.Ytppfjachcleolaa.Pure
open Go.RowKit Go.Proofs.Ytppfjachcleolaa.PFnExactFrontStep Go.Proofs.YtppfjachcleolaaW.PrintWords Go.Proofs.YtppfjachcleolaaW.PrintLast Go.Proofs.Ytppfjachcleolaa.B Go.Proofs.Ytppfjachcleolaa.C
set_option linter.unusedSimpArgs false
set_option linter.unusedVariables false

theorem laws_toIntS_l0 (l : List Int) (hl : l.length ≤ 1048576) : ∀ (d : Nat) (x : List Int) (i : Nat), l.length - i = d → i ≤ l.length → x.length = l.length → (∀ j, j < i → G x j = G l j) → Ev (fun k => laws_toIntS.l0 k l x (i : Int)) l := by
  intro d
  induction d with
  | zero =>
    intro x i hd hi hx hj
    refine Ev.step (fun k => laws_toIntS.l0.eq_2 ..) ?_
    simp (disch := omega) only [if_pos, if_neg, w64, rdn, rd0, tn, sc, Option.bind_some, ↓reduceIte, Bool.false_eq_true, Bool.true_eq_false]
    exact Ev.val (ext hx (fun j h => hj j (by omega)))
  | succ d ih =>
    intro x i hd hi hx hj
    refine Ev.step (fun k => laws_toIntS.l0.eq_2 ..) ?_
    simp (disch := omega) only [if_pos, if_neg, w64, rdn, rd0, tn, sc, Option.bind_some, ↓reduceIte, Bool.false_eq_true, Bool.true_eq_false]
    refine ih _ _ (by omega) (by omega) (by simp [hx]) ?_
    intro j hji
    by_cases e : j = i
    · subst e; rw [G_set_self _ (by omega)]
    · rw [G_set_ne _ e]; exact hj j (by omega)
theorem laws_toIntS_ev (l : List Int) (hl : l.length ≤ 1048576) : Ev (fun k => laws_toIntS.f k l) l := by
  unfold laws_toIntS.f
  simp (disch := omega) only [if_pos, if_neg, w64, rdn, rd0, tn, sc, Option.bind_some, ↓reduceIte, Bool.false_eq_true, Bool.true_eq_false]
  exact laws_toIntS_l0 l hl _ _ 0 rfl (by omega) (by simp) (fun j h => by omega)

theorem laws_eqIntS_l0 (a b : List Int) (hl : a.length ≤ 1048576) (hab : a.length = b.length) : ∀ (d : Nat) (i : Nat), a.length - i = d → i ≤ a.length → (∀ j, j < i → G a j = G b j) → Ev (fun k => laws_eqIntS.l0 k a b (i : Int)) (decide (a = b)) := by
  intro d
  induction d with
  | zero =>
    intro i hd hi hj
    refine Ev.step (fun k => laws_eqIntS.l0.eq_2 ..) ?_
    simp (disch := omega) only [if_pos, if_neg, w64, rdn, rd0, tn, sc, Option.bind_some, ↓reduceIte, Bool.false_eq_true, Bool.true_eq_false]
    have e : a = b := ext hab (fun j h => hj j (by omega))
    exact Ev.val (by simp [e])
  | succ d ih =>
    intro i hd hi hj
    refine Ev.step (fun k => laws_eqIntS.l0.eq_2 ..) ?_
    by_cases e : G a i = G b i
    · simp (disch := omega) only [if_pos, if_neg, w64, rdn, rd0, tn, sc, Option.bind_some, ↓reduceIte, Bool.false_eq_true, Bool.true_eq_false]
      refine ih _ (by omega) (by omega) ?_
      intro j hji
      by_cases e' : j = i
      · subst e'; exact e
      · exact hj j (by omega)
    · simp (disch := omega) only [if_pos, if_neg, w64, rdn, rd0, tn, sc, Option.bind_some, ↓reduceIte, Bool.false_eq_true, Bool.true_eq_false]
      have : a ≠ b := fun h => e (by rw [h])
      exact Ev.val (by simp [this])
theorem laws_eqIntS_ev (a b : List Int) (hl : a.length ≤ 1048576) : Ev (fun k => laws_eqIntS.f k a b) (decide (a = b)) := by
  unfold laws_eqIntS.f
  by_cases hab : a.length = b.length
  · simp (disch := omega) only [if_pos, if_neg, w64, rdn, rd0, tn, sc, Option.bind_some, ↓reduceIte, Bool.false_eq_true, Bool.true_eq_false]
    exact laws_eqIntS_l0 a b hl hab _ 0 rfl (by omega) (fun j h => by omega)
  · simp (disch := omega) only [if_pos, if_neg, w64, rdn, rd0, tn, sc, Option.bind_some, ↓reduceIte, Bool.false_eq_true, Bool.true_eq_false]
    have : a ≠ b := fun h => hab (by rw [h])
    exact Ev.val (by simp [this])
theorem laws_eqIntS_self (a : List Int) (hl : a.length ≤ 1048576) : Ev (fun k => laws_eqIntS.f k a a) true := by
  have h := laws_eqIntS_ev a a hl
  simpa using h

theorem laws_markIntS_l0 (n : Nat) (hn : n ≤ 1048576) (m : Nat) (hm : m ≤ 1048576) : ∀ (d : Nat) (x : List Int) (i : Nat), n - i = d → i ≤ n → x.length = n → (∀ j, j < i → G x j = (m : Int) + j) → Ev (fun k => laws_markIntS.l0 k x ((m + i : Nat) : Int) (i : Int)) (((m + n : Nat) : Int), mk n (fun j => (m : Int) + j)) := by
  intro d
  induction d with
  | zero =>
    intro x i hd hi hx hj
    refine Ev.step (fun k => laws_markIntS.l0.eq_2 ..) ?_
    simp (disch := omega) only [if_pos, if_neg, w64, rdn, rd0, tn, sc, Option.bind_some, ↓reduceIte, Bool.false_eq_true, Bool.true_eq_false]
    obtain rfl : i = n := by omega
    exact Ev.val (by rw [Prod.mk.injEq]; exact ⟨rfl, mk_eq_iff.2 ⟨hx, hj⟩⟩)
  | succ d ih =>
    intro x i hd hi hx hj
    refine Ev.step (fun k => laws_markIntS.l0.eq_2 ..) ?_
    simp (disch := omega) only [if_pos, if_neg, w64, rdn, rd0, tn, sc, Option.bind_some, ↓reduceIte, Bool.false_eq_true, Bool.true_eq_false]
    refine ih _ (i + 1) (by omega) (by omega) (by simp [hx]) ?_
    intro j hji
    by_cases e : j = i
    · subst e; rw [G_set_self _ (by omega)]; simp
    · rw [G_set_ne _ e]; exact hj j (by omega)
theorem laws_markIntS_ev (x : List Int) (hn : x.length ≤ 1048576) : Ev (fun k => laws_markIntS.f k x 1) (((1 + x.length : Nat) : Int), mk x.length (fun j => (1 : Int) + j)) := by
  unfold laws_markIntS.f
  exact laws_markIntS_l0 x.length hn 1 (by omega) _ x 0 rfl (by omega) rfl (fun j h => by omega)
theorem laws_markIntS_ev2 (x : List Int) (m : Nat) (hm : m ≤ 1048576) (hn : x.length ≤ 1048576) : Ev (fun k => laws_markIntS.f k x (m : Int)) (((m + x.length : Nat) : Int), mk x.length (fun j => (m : Int) + j)) := by
  unfold laws_markIntS.f
  exact laws_markIntS_l0 x.length hn m hm _ x 0 rfl (by omega) rfl (fun j h => by omega)

theorem laws_heldIntS_l0 (n : Nat) (hn : n ≤ 1048576) : ∀ (d : Nat) (i : Nat), n - i = d → i ≤ n → Ev (fun k => laws_heldIntS.l0 k (mk n (fun j => (1 : Int) + j)) ((1 + i : Nat) : Int) (i : Int)) ((1 + n : Nat) : Int) := by
  intro d
  induction d with
  | zero =>
    intro i hd hi
    refine Ev.step (fun k => laws_heldIntS.l0.eq_2 ..) ?_
    simp only [mk_length]
    simp (disch := omega) only [if_pos, if_neg, w64, rdn, rd0, tn, sc, Option.bind_some, ↓reduceIte, Bool.false_eq_true, Bool.true_eq_false]
    obtain rfl : i = n := by omega
    exact Ev.now _
  | succ d ih =>
    intro i hd hi
    refine Ev.step (fun k => laws_heldIntS.l0.eq_2 ..) ?_
    have e : G (mk n (fun j => (1 : Int) + j)) i = ((1 + i : Nat) : Int) := by rw [G_mk _ (by omega)]; omega
    simp only [mk_length]
    simp (disch := omega) only [if_pos, if_neg, w64, rdn, rd0, tn, sc, Option.bind_some, ↓reduceIte, Bool.false_eq_true, Bool.true_eq_false]
    exact ih (i + 1) (by omega) (by omega)
theorem laws_heldIntS_ev (n : Nat) (hn : n ≤ 1048576) : Ev (fun k => laws_heldIntS.f k (mk n (fun j => (1 : Int) + j)) 1) ((1 + n : Nat) : Int) := by
  unfold laws_heldIntS.f
  exact laws_heldIntS_l0 n hn _ 0 rfl (by omega)

theorem spec_l1In_eq (a b c : Int) : spec_l1In.f a b c = some (decide (b ≤ a ∧ a ≤ c)) := by
  unfold spec_l1In.f
  by_cases h : b ≤ a <;> simp [h]

theorem spec_FrontsOk_l0 (l : List Int) (hl : l.length ≤ 1048576) : ∀ (d : Nat) (i : Nat), l.length - i = d → i ≤ l.length → (∀ j, j < i → -1 ≤ G l j ∧ G l j ≤ 1) → Ev (fun k => spec_FrontsOk.l0 k l (sumN (G l) i) (i : Int)) (decide (FrontsP l)) := by
  intro d
  induction d with
  | zero =>
    intro i hd hi hj
    refine Ev.step (fun k => spec_FrontsOk.l0.eq_2 ..) ?_
    simp only [spec_l1In_eq, Option.bind_some]
    obtain rfl : i = l.length := by omega
    by_cases h : 3 ≤ l.length ∧ l.length ≤ 6
    · have h' : (3 : Int) ≤ (l.length : Int) ∧ (l.length : Int) ≤ 6 := by omega
      simp only [h', and_self, decide_true]
      simp (disch := omega) only [if_pos, if_neg, w64, rdn, rd0, tn, sc, Option.bind_some, ↓reduceIte, Bool.false_eq_true, Bool.true_eq_false]
      rw [tmod3]
      refine Ev.val ?_
      simp only [FrontsP, h.1, h.2, true_and]
      rw [decide_eq_decide]
      exact ⟨fun e => ⟨fun i hi => hj i hi, e⟩, fun e => e.2⟩
    · have h' : ¬ ((3 : Int) ≤ (l.length : Int) ∧ (l.length : Int) ≤ 6) := by omega
      simp only [h', decide_false]
      simp (disch := omega) only [if_pos, if_neg, w64, rdn, rd0, tn, sc, Option.bind_some, ↓reduceIte, Bool.false_eq_true, Bool.true_eq_false]
      refine Ev.val ?_
      have : ¬ FrontsP l := fun p => h ⟨p.1, p.2.1⟩
      simp [this]
  | succ d ih =>
    intro i hd hi hj
    refine Ev.step (fun k => spec_FrontsOk.l0.eq_2 ..) ?_
    have hb := sumN_bound (f := G l) (n := i) (b := 1) hj
    by_cases e : -1 ≤ G l i ∧ G l i ≤ 1
    · have e1 : spec_l1In.f (G l i) (-1) 1 = some true := by rw [spec_l1In_eq]; simp [e]
      simp (disch := omega) only [if_pos, if_neg, w64, rdn, rd0, tn, sc, Option.bind_some, ↓reduceIte, Bool.false_eq_true, Bool.true_eq_false]
      simp only [e1, Option.bind_some]
      simp (disch := omega) only [if_pos, if_neg, w64, rdn, rd0, tn, sc, Option.bind_some, ↓reduceIte, Bool.false_eq_true, Bool.true_eq_false]
      refine ih (i + 1) (by omega) (by omega) ?_
      intro j hji
      by_cases e' : j = i
      · subst e'; exact e
      · exact hj j (by omega)
    · have e1 : spec_l1In.f (G l i) (-1) 1 = some false := by rw [spec_l1In_eq]; simp only [e, decide_false]
      simp (disch := omega) only [if_pos, if_neg, w64, rdn, rd0, tn, sc, Option.bind_some, ↓reduceIte, Bool.false_eq_true, Bool.true_eq_false]
      simp only [e1, Option.bind_some]
      simp (disch := omega) only [if_pos, if_neg, w64, rdn, rd0, tn, sc, Option.bind_some, ↓reduceIte, Bool.false_eq_true, Bool.true_eq_false]
      refine Ev.val ?_
      have : ¬ FrontsP l := fun p => e (p.2.2.1 i (by omega))
      simp [this]
theorem spec_FrontsOk_ev (l : List Int) (hl : l.length ≤ 1048576) : Ev (fun k => spec_FrontsOk.f k l) (decide (FrontsP l)) := by
  unfold spec_FrontsOk.f
  exact spec_FrontsOk_l0 l hl _ 0 rfl (by omega) (fun j h => by omega)

/-- Whether the node before a front goes on. -/
def goes (l : List Int) (i : Nat) : Int := if G l (i % l.length) = 1 ∨ G l ((i + l.length - 1) % l.length) = -1 then 1 else 0
theorem goes_bd (l : List Int) (i : Nat) : 0 ≤ goes l i ∧ goes l i ≤ 1 := by unfold goes; split <;> omega
theorem spec_l8Goes_eq (l : List Int) (h1 : 1 ≤ l.length) (h6 : l.length ≤ 6) (i : Nat) (hi : i ≤ 100) : spec_l8Goes.f l (i : Int) = some (goes l i) := by
  unfold spec_l8Goes.f goes
  have hm : i % l.length < l.length := Nat.mod_lt _ (by omega)
  have hm2 : (i + l.length - 1) % l.length < l.length := Nat.mod_lt _ (by omega)
  have e1 : Int.tmod (i : Int) (l.length : Int) = ((i % l.length : Nat) : Int) := by rw [tmod_nn (by omega)]; rfl
  have e2 : wrap64 (wrap64 ((i : Int) + (l.length : Int)) - 1) = ((i + l.length - 1 : Nat) : Int) := by
    rw [w64 (n := (i : Int) + (l.length : Int)) (by omega) (by omega), w64 (by omega) (by omega)]; omega
  have e3 : Int.tmod ((i + l.length - 1 : Nat) : Int) (l.length : Int) = (((i + l.length - 1) % l.length : Nat) : Int) := by rw [tmod_nn (by omega)]; rfl
  simp only [e1, e2, e3, rdn]
  by_cases c1 : G l (i % l.length) = 1
  · rw [if_pos (Or.inl c1)]
    simp (disch := omega) only [if_pos, if_neg, w64, rdn, rd0, tn, sc, Option.bind_some, ↓reduceIte, Bool.false_eq_true, Bool.true_eq_false]
  · by_cases c2 : G l ((i + l.length - 1) % l.length) = -1
    · rw [if_pos (Or.inr c2)]
      simp (disch := omega) only [if_pos, if_neg, w64, rdn, rd0, tn, sc, Option.bind_some, ↓reduceIte, Bool.false_eq_true, Bool.true_eq_false]
    · rw [if_neg (by omega)]
      simp (disch := omega) only [if_pos, if_neg, w64, rdn, rd0, tn, sc, Option.bind_some, ↓reduceIte, Bool.false_eq_true, Bool.true_eq_false]

/-- The fronts after a move. -/
def frontStep (l : List Int) : List Int := if FrontsP l then mk l.length (fun i => G l i + goes l (i + 1) - goes l i) else []
theorem spec_FrontStep_l0 (l : List Int) (hf : FrontsP l) : ∀ (d : Nat) (i : Nat), l.length - i = d → i ≤ l.length →
    Ev (fun k => spec_FrontStep.l0 k l (mk i (fun i => G l i + goes l (i + 1) - goes l i)) (i : Int)) (mk l.length (fun i => G l i + goes l (i + 1) - goes l i)) := by
  intro d
  have h6 := hf.2.1
  have h3 := hf.1
  induction d with
  | zero =>
    intro i hd hi
    refine Ev.step (fun k => spec_FrontStep.l0.eq_2 ..) ?_
    obtain rfl : i = l.length := by omega
    simp (disch := omega) only [if_pos, if_neg, w64, rdn, rd0, tn, sc, Option.bind_some, ↓reduceIte, Bool.false_eq_true, Bool.true_eq_false]
    refine Ev.step (fun k => spec_FrontStep.j1.eq_2 ..) ?_
    simp (disch := omega) only [if_pos, if_neg, w64, rdn, rd0, tn, sc, Option.bind_some, ↓reduceIte, Bool.false_eq_true, Bool.true_eq_false]
    exact Ev.now _
  | succ d ih =>
    intro i hd hi
    refine Ev.step (fun k => spec_FrontStep.l0.eq_2 ..) ?_
    have h := ih (i + 1) (by omega) (by omega)
    rw [mk_succ] at h
    simp (disch := omega) only [if_pos, if_neg, w64, rdn, rd0, tn, sc, Option.bind_some, ↓reduceIte, Bool.false_eq_true, Bool.true_eq_false]
    refine Ev.bind (spec_FrontsOk_ev l (by omega)) ?_
    refine Ev.step (fun k => spec_FrontStep.j1.eq_2 ..) ?_
    have g1 := spec_l8Goes_eq l (by omega) h6 (i + 1) (by omega)
    have g2 := spec_l8Goes_eq l (by omega) h6 i (by omega)
    have b1 := goes_bd l (i + 1)
    have b2 := goes_bd l i
    have b3 := hf.2.2.1 i (by omega)
    simp only [hf, decide_true]
    simp (disch := omega) only [if_pos, if_neg, w64, rdn, rd0, tn, sc, Option.bind_some, ↓reduceIte, Bool.false_eq_true, Bool.true_eq_false]
    simp only [g1, g2, mk_length, Option.bind_some]
    simp (disch := omega) only [if_pos, if_neg, w64, rdn, rd0, tn, sc, Option.bind_some, ↓reduceIte, Bool.false_eq_true, Bool.true_eq_false]
    exact h
theorem spec_FrontStep_ev (l : List Int) (hl : l.length ≤ 1048576) : Ev (fun k => spec_FrontStep.f k l) (frontStep l) := by
  unfold spec_FrontStep.f frontStep
  by_cases hf : FrontsP l
  · rw [if_pos hf]
    exact spec_FrontStep_l0 l hf _ 0 rfl (by omega)
  · rw [if_neg hf]
    refine Ev.step (fun k => spec_FrontStep.l0.eq_2 ..) ?_
    by_cases h0 : 0 < l.length
    · simp (disch := omega) only [if_pos, if_neg, w64, rdn, rd0, tn, sc, Option.bind_some, ↓reduceIte, Bool.false_eq_true, Bool.true_eq_false]
      refine Ev.bind (spec_FrontsOk_ev l (by omega)) ?_
      refine Ev.step (fun k => spec_FrontStep.j1.eq_2 ..) ?_
      simp only [hf, decide_false]
      simp (disch := omega) only [if_pos, if_neg, w64, rdn, rd0, tn, sc, Option.bind_some, ↓reduceIte, Bool.false_eq_true, Bool.true_eq_false]
      exact Ev.now _
    · simp (disch := omega) only [if_pos, if_neg, w64, rdn, rd0, tn, sc, Option.bind_some, ↓reduceIte, Bool.false_eq_true, Bool.true_eq_false]
      refine Ev.step (fun k => spec_FrontStep.j1.eq_2 ..) ?_
      simp (disch := omega) only [if_pos, if_neg, w64, rdn, rd0, tn, sc, Option.bind_some, ↓reduceIte, Bool.false_eq_true, Bool.true_eq_false]
      exact Ev.now _
theorem frontStep_length (l : List Int) : (frontStep l).length ≤ 6 := by
  unfold frontStep
  split
  · rename_i h; rw [mk_length]; exact h.2.1
  · simp

theorem impl_FrontsOk_l0 (l : List Int) (hl : l.length ≤ 1048576) : ∀ (d : Nat) (i : Nat), l.length - i = d → i ≤ l.length → (∀ j, j < i → -1 ≤ G l j ∧ G l j ≤ 1) → Ev (fun k => impl_FrontsOk.l0 k l (sumN (G l) i) l (l.length : Int) (i : Int)) (decide (FrontsP l)) := by
  intro d
  induction d with
  | zero =>
    intro i hd hi hj
    refine Ev.step (fun k => impl_FrontsOk.l0.eq_2 ..) ?_
    obtain rfl : i = l.length := by omega
    by_cases h3 : 3 ≤ l.length
    · by_cases h6 : l.length ≤ 6
      · simp (disch := omega) only [if_pos, if_neg, w64, rdn, rd0, tn, sc, Option.bind_some, ↓reduceIte, Bool.false_eq_true, Bool.true_eq_false]
        rw [tmod3]
        refine Ev.val ?_
        simp only [FrontsP, h3, h6, true_and]
        rw [decide_eq_decide]
        exact ⟨fun e => ⟨fun i hi => hj i hi, e⟩, fun e => e.2⟩
      · simp (disch := omega) only [if_pos, if_neg, w64, rdn, rd0, tn, sc, Option.bind_some, ↓reduceIte, Bool.false_eq_true, Bool.true_eq_false]
        refine Ev.val ?_
        have : ¬ FrontsP l := fun p => h6 p.2.1
        simp [this]
    · simp (disch := omega) only [if_pos, if_neg, w64, rdn, rd0, tn, sc, Option.bind_some, ↓reduceIte, Bool.false_eq_true, Bool.true_eq_false]
      refine Ev.val ?_
      have : ¬ FrontsP l := fun p => h3 p.1
      simp [this]
  | succ d ih =>
    intro i hd hi hj
    refine Ev.step (fun k => impl_FrontsOk.l0.eq_2 ..) ?_
    have hb := sumN_bound (f := G l) (n := i) (b := 1) hj
    by_cases e0 : G l i < -1
    · simp (disch := omega) only [if_pos, if_neg, w64, rdn, rd0, tn, sc, Option.bind_some, ↓reduceIte, Bool.false_eq_true, Bool.true_eq_false]
      refine Ev.val ?_
      have : ¬ FrontsP l := fun p => by have := p.2.2.1 i (by omega); omega
      simp [this]
    · by_cases e1 : G l i > 1
      · simp (disch := omega) only [if_pos, if_neg, w64, rdn, rd0, tn, sc, Option.bind_some, ↓reduceIte, Bool.false_eq_true, Bool.true_eq_false]
        refine Ev.val ?_
        have : ¬ FrontsP l := fun p => by have := p.2.2.1 i (by omega); omega
        simp [this]
      · simp (disch := omega) only [if_pos, if_neg, w64, rdn, rd0, tn, sc, Option.bind_some, ↓reduceIte, Bool.false_eq_true, Bool.true_eq_false]
        refine ih (i + 1) (by omega) (by omega) ?_
        intro j hji
        by_cases e' : j = i
        · subst e'; omega
        · exact hj j (by omega)
theorem impl_FrontsOk_ev (l : List Int) (hl : l.length ≤ 1048576) : Ev (fun k => impl_FrontsOk.f k l) (decide (FrontsP l)) := by
  unfold impl_FrontsOk.f
  exact impl_FrontsOk_l0 l hl _ 0 rfl (by omega) (fun j h => by omega)

theorem goes_at (l : List Int) {i : Nat} (hi : i < l.length) : goes l i = if G l i = 1 ∨ G l ((i + l.length - 1) % l.length) = -1 then 1 else 0 := by
  unfold goes; rw [Nat.mod_eq_of_lt hi]
theorem goes_mod (l : List Int) (h0 : 0 < l.length) (i : Nat) : goes l ((i + 1) % l.length) = goes l (i + 1) := by
  unfold goes
  rw [Nat.mod_mod]
  have e : ((i + 1) % l.length + l.length - 1) % l.length = (i + 1 + l.length - 1) % l.length := by
    rw [Nat.add_sub_assoc h0, Nat.add_sub_assoc h0, Nat.mod_add_mod]
  rw [e]
theorem impl_FrontStep_l1 (l : List Int) (hf : FrontsP l) : ∀ (d : Nat) (i : Nat), l.length - i = d → i ≤ l.length →
    Ev (fun k => impl_FrontStep.l1 k (l.length : Int) (mk l.length (goes l)) (mk i (fun i => G l i + goes l (i + 1) - goes l i)) l (l.length : Int) (i : Int)) (mk l.length (fun i => G l i + goes l (i + 1) - goes l i)) := by
  intro d
  have h6 := hf.2.1
  have h3 := hf.1
  induction d with
  | zero =>
    intro i hd hi
    refine Ev.step (fun k => impl_FrontStep.l1.eq_2 ..) ?_
    obtain rfl : i = l.length := by omega
    simp (disch := omega) only [if_pos, if_neg, w64, rdn, rd0, tn, sc, Option.bind_some, ↓reduceIte, Bool.false_eq_true, Bool.true_eq_false]
    exact Ev.now _
  | succ d ih =>
    intro i hd hi
    refine Ev.step (fun k => impl_FrontStep.l1.eq_2 ..) ?_
    have h := ih (i + 1) (by omega) (by omega)
    rw [mk_succ] at h
    have hm : (i + 1) % l.length < l.length := Nat.mod_lt _ (by omega)
    have e1 : Int.tmod (((i + 1 : Nat) : Int)) (l.length : Int) = (((i + 1) % l.length : Nat) : Int) := by rw [tmod_nn (by omega)]; rfl
    have g1 : G (mk l.length (goes l)) ((i + 1) % l.length) = goes l (i + 1) := by rw [G_mk _ hm, goes_mod l (by omega)]
    have g2 : G (mk l.length (goes l)) i = goes l i := G_mk _ (by omega)
    have b1 := goes_bd l (i + 1)
    have b2 := goes_bd l i
    have b3 := hf.2.2.1 i (by omega)
    have w1 : wrap64 ((i : Int) + 1) = ((i + 1 : Nat) : Int) := w64 (by omega) (by omega)
    simp only [w1, e1, mk_length, rdn, g1, g2]
    clear w1 e1 g1 g2
    simp (disch := omega) only [if_pos, if_neg, w64, rdn, rd0, tn, sc, Option.bind_some, ↓reduceIte, Bool.false_eq_true, Bool.true_eq_false]
    exact h
theorem impl_FrontStep_l0 (l : List Int) (hf : FrontsP l) (r : List Int) (hend : Ev (fun k => impl_FrontStep.l1 k (l.length : Int) (mk l.length (goes l)) [] l (l.length : Int) 0) r) :
    ∀ (d : Nat) (i : Nat) (x : List Int), l.length - i = d → i ≤ l.length → x.length = l.length → (∀ j, j < l.length → G x j = if j < i then goes l j else 0) →
    Ev (fun k => impl_FrontStep.l0 k l (l.length : Int) x (l.length : Int) (i : Int)) r := by
  intro d
  have h6 := hf.2.1
  have h3 := hf.1
  induction d with
  | zero =>
    intro i x hd hi hx hj
    refine Ev.step (fun k => impl_FrontStep.l0.eq_2 ..) ?_
    obtain rfl : i = l.length := by omega
    simp (disch := omega) only [if_pos, if_neg, w64, rdn, rd0, tn, sc, Option.bind_some, ↓reduceIte, Bool.false_eq_true, Bool.true_eq_false]
    have e : x = mk l.length (goes l) := mk_eq_iff.2 ⟨hx, fun j h => by rw [hj j h, if_pos h]⟩
    rw [e]; exact hend
  | succ d ih =>
    intro i x hd hi hx hj
    refine Ev.step (fun k => impl_FrontStep.l0.eq_2 ..) ?_
    have hm : (i + l.length - 1) % l.length < l.length := Nat.mod_lt _ (by omega)
    have e2 : wrap64 (wrap64 ((i : Int) + (l.length : Int)) - 1) = ((i + l.length - 1 : Nat) : Int) := by
      rw [w64 (n := (i : Int) + (l.length : Int)) (by omega) (by omega), w64 (by omega) (by omega)]; omega
    have e3 : Int.tmod ((i + l.length - 1 : Nat) : Int) (l.length : Int) = (((i + l.length - 1) % l.length : Nat) : Int) := by rw [tmod_nn (by omega)]; rfl
    have hg := goes_at l (show i < l.length by omega)
    have yes : (G l i = 1 ∨ G l ((i + l.length - 1) % l.length) = -1) → Ev (fun k => impl_FrontStep.l0 k l (l.length : Int) (x.set i 1) (l.length : Int) ((i + 1 : Nat) : Int)) r := by
      intro c
      rw [if_pos c] at hg
      refine ih _ _ (by omega) (by omega) (by simp [hx]) ?_
      intro j hjl
      by_cases e : j = i
      · subst e; rw [G_set_self _ (by omega), if_pos (by omega), hg]
      · rw [G_set_ne _ e, hj j hjl]
        by_cases e4 : j < i
        · rw [if_pos e4, if_pos (by omega)]
        · rw [if_neg e4, if_neg (by omega)]
    simp only [rdn, e2, e3, tn]
    by_cases c1 : G l i = 1
    · simp (disch := omega) only [if_pos, if_neg, w64, rdn, rd0, tn, sc, Option.bind_some, ↓reduceIte, Bool.false_eq_true, Bool.true_eq_false]
      exact yes (Or.inl c1)
    · by_cases c2 : G l ((i + l.length - 1) % l.length) = -1
      · simp (disch := omega) only [if_pos, if_neg, w64, rdn, rd0, tn, sc, Option.bind_some, ↓reduceIte, Bool.false_eq_true, Bool.true_eq_false]
        exact yes (Or.inr c2)
      · simp (disch := omega) only [if_pos, if_neg, w64, rdn, rd0, tn, sc, Option.bind_some, ↓reduceIte, Bool.false_eq_true, Bool.true_eq_false]
        rw [if_neg (by omega)] at hg
        refine ih _ _ (by omega) (by omega) hx ?_
        intro j hjl
        rw [hj j hjl]
        by_cases e : j = i
        · subst e; rw [if_neg (by omega), if_pos (by omega), hg]
        · by_cases e4 : j < i
          · rw [if_pos e4, if_pos (by omega)]
          · rw [if_neg e4, if_neg (by omega)]
theorem impl_FrontStep_ev (l : List Int) (hl : l.length ≤ 1048576) : Ev (fun k => impl_FrontStep.f k l) (frontStep l) := by
  unfold impl_FrontStep.f frontStep
  refine Ev.bind (impl_FrontsOk_ev l (by omega)) ?_
  by_cases hf : FrontsP l
  · simp only [hf, decide_true]
    have h6 := hf.2.1
    simp (disch := omega) only [if_pos, if_neg, w64, rdn, rd0, tn, sc, Option.bind_some, ↓reduceIte, Bool.false_eq_true, Bool.true_eq_false]
    refine impl_FrontStep_l0 l hf _ (impl_FrontStep_l1 l hf _ 0 rfl (by omega)) _ 0 _ rfl (by omega) (by simp) ?_
    intro j hj
    rw [if_neg (by omega), replicate_mk, G_mk _ (by simpa using hj)]
  · simp only [hf, decide_false]
    simp (disch := omega) only [if_pos, if_neg, w64, rdn, rd0, tn, sc, Option.bind_some, ↓reduceIte, Bool.false_eq_true, Bool.true_eq_false]
    exact Ev.now _

theorem FnExactFrontStep_j0 (l : List Int) (hl : l.length ≤ 1048576) : Ev (fun k => laws_FnExactFrontStep.j0 k l (frontStep l) (frontStep l) false) true := by
  have hg : ((frontStep l)).length ≤ 1048576 := by have := frontStep_length l; omega
  refine Ev.step (fun k => laws_FnExactFrontStep.j0.eq_2 ..) ?_
  simp (disch := omega) only [if_pos, if_neg, w64, rdn, rd0, tn, sc, Option.bind_some, ↓reduceIte, Bool.false_eq_true, Bool.true_eq_false]
  refine Ev.bind (laws_markIntS_ev _ hg) ?_
  refine Ev.bind (laws_heldIntS_ev _ hg) ?_
  simp (disch := omega) only [if_pos, if_neg, w64, rdn, rd0, tn, sc, Option.bind_some, ↓reduceIte, Bool.false_eq_true, Bool.true_eq_false]
  refine Ev.bind (laws_toIntS_ev l hl) ?_
  refine Ev.bind (impl_FrontStep_ev l hl) ?_
  refine Ev.bind (laws_eqIntS_self _ hg) ?_
  simp (disch := omega) only [if_pos, if_neg, w64, rdn, rd0, tn, sc, Option.bind_some, ↓reduceIte, Bool.false_eq_true, Bool.true_eq_false]
  refine Ev.bind (laws_heldIntS_ev _ hg) ?_
  simp (disch := omega) only [if_pos, if_neg, w64, rdn, rd0, tn, sc, Option.bind_some, ↓reduceIte, Bool.false_eq_true, Bool.true_eq_false]
  exact Ev.now _
theorem FnExactFrontStep : laws_FnExactFrontStep.Pure := by
  intro l _ _ _
  refine Ev.rounds (r := true) ?_
  unfold laws_FnExactFrontStep.f
  by_cases hl : l.length ≤ 1048576
  rotate_left
  · simp (disch := omega) only [if_pos, if_neg, w64, rdn, rd0, tn, sc, Option.bind_some, ↓reduceIte, Bool.false_eq_true, Bool.true_eq_false]
    exact Ev.now _
  simp (disch := omega) only [if_pos, if_neg, w64, rdn, rd0, tn, sc, Option.bind_some, ↓reduceIte, Bool.false_eq_true, Bool.true_eq_false]
  refine Ev.bind (laws_toIntS_ev l hl) ?_
  refine Ev.bind (spec_FrontStep_ev l hl) ?_
  refine Ev.bind (laws_toIntS_ev l hl) ?_
  refine Ev.bind (impl_FrontStep_ev l hl) ?_
  have hg : ((frontStep l)).length ≤ 1048576 := by have := frontStep_length l; omega
  refine Ev.bind (laws_eqIntS_self _ hg) ?_
  simp (disch := omega) only [if_pos, if_neg, w64, rdn, rd0, tn, sc, Option.bind_some, ↓reduceIte, Bool.false_eq_true, Bool.true_eq_false]
  refine Ev.bind (laws_toIntS_ev l hl) ?_
  refine Ev.bind (laws_eqIntS_self _ hl) ?_
  simp (disch := omega) only [if_pos, if_neg, w64, rdn, rd0, tn, sc, Option.bind_some, ↓reduceIte, Bool.false_eq_true, Bool.true_eq_false]
  refine Ev.bind (laws_markIntS_ev _ hl) ?_
  simp (disch := omega) only [if_pos, if_neg, w64, rdn, rd0, tn, sc, Option.bind_some, ↓reduceIte, Bool.false_eq_true, Bool.true_eq_false]
  refine Ev.bind (laws_eqIntS_self _ hg) ?_
  simp only [Bool.not_true]
  exact FnExactFrontStep_j0 l hl

end Go.Proofs.Ytppfjachcleolaa.Pure
