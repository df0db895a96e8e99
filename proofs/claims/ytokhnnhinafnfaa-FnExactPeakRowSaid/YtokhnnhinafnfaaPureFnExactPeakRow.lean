/- Proved: the statement FnExactPeakRow, for every input, without further conditions. -/
import Derived.Test.YtokhnnhinafnfaaPFnExactPeakRowx9
import Derived.Test.YtokhnnhinafnfaaBase
import Derived.Test.YtokhnnhinafnfaaFire
import Derived.Test.YtokhnnhinafnfaaHeights
import Derived.Test.YtokhnnhinafnfaaParts
namespace Go.Proofs.Ytokhnnhinafnfaa.Pure
open Go.RowKit Go.Proofs.Ytokhnnhinafnfaa.PFnExactPeakRow Go.Proofs.YtokhnnhinafnfaaW.PrintWords Go.Proofs.YtokhnnhinafnfaaW.PrintLast Go.Proofs.Ytokhnnhinafnfaa.B Go.Proofs.Ytokhnnhinafnfaa.C
set_option linter.unusedSimpArgs false
set_option linter.unusedVariables false

theorem laws_toIntS_l0 (l : List Int) (hl : l.length ≤ 1048576) : ∀ (d : Nat) (x : List Int) (i : Nat), l.length - i = d → i ≤ l.length → x.length = l.length → (∀ j, j < i → G x j = G l j) → Ev (fun k => laws_toIntS.l0 k l x (i : Int)) l := by
  intro d
  induction d with
  | zero =>
    intro x i hd hi hx hj
    refine Ev.step (fun k => laws_toIntS.l0.eq_2 ..) ?_
    simp (disch := omega) only [if_pos, if_neg, w64, rdn, rd0, tn, sc, Option.bind_some, ↓reduceIte, Bool.false_eq_true, Bool.true_eq_false]
    exact Ev.val (ext hx (fun j h => hj j (by omega)))
  | succ d ih =>
    intro x i hd hi hx hj
    refine Ev.step (fun k => laws_toIntS.l0.eq_2 ..) ?_
    simp (disch := omega) only [if_pos, if_neg, w64, rdn, rd0, tn, sc, Option.bind_some, ↓reduceIte, Bool.false_eq_true, Bool.true_eq_false]
    refine ih _ _ (by omega) (by omega) (by simp [hx]) ?_
    intro j hji
    by_cases e : j = i
    · subst e; rw [G_set_self _ (by omega)]
    · rw [G_set_ne _ e]; exact hj j (by omega)
theorem laws_toIntS_ev (l : List Int) (hl : l.length ≤ 1048576) : Ev (fun k => laws_toIntS.f k l) l := by
  unfold laws_toIntS.f
  simp (disch := omega) only [if_pos, if_neg, w64, rdn, rd0, tn, sc, Option.bind_some, ↓reduceIte, Bool.false_eq_true, Bool.true_eq_false]
  exact laws_toIntS_l0 l hl _ _ 0 rfl (by omega) (by simp) (fun j h => by omega)

theorem laws_eqIntS_l0 (a b : List Int) (hl : a.length ≤ 1048576) (hab : a.length = b.length) : ∀ (d : Nat) (i : Nat), a.length - i = d → i ≤ a.length → (∀ j, j < i → G a j = G b j) → Ev (fun k => laws_eqIntS.l0 k a b (i : Int)) (decide (a = b)) := by
  intro d
  induction d with
  | zero =>
    intro i hd hi hj
    refine Ev.step (fun k => laws_eqIntS.l0.eq_2 ..) ?_
    simp (disch := omega) only [if_pos, if_neg, w64, rdn, rd0, tn, sc, Option.bind_some, ↓reduceIte, Bool.false_eq_true, Bool.true_eq_false]
    have e : a = b := ext hab (fun j h => hj j (by omega))
    exact Ev.val (by simp [e])
  | succ d ih =>
    intro i hd hi hj
    refine Ev.step (fun k => laws_eqIntS.l0.eq_2 ..) ?_
    by_cases e : G a i = G b i
    · simp (disch := omega) only [if_pos, if_neg, w64, rdn, rd0, tn, sc, Option.bind_some, ↓reduceIte, Bool.false_eq_true, Bool.true_eq_false]
      refine ih _ (by omega) (by omega) ?_
      intro j hji
      by_cases e' : j = i
      · subst e'; exact e
      · exact hj j (by omega)
    · simp (disch := omega) only [if_pos, if_neg, w64, rdn, rd0, tn, sc, Option.bind_some, ↓reduceIte, Bool.false_eq_true, Bool.true_eq_false]
      have : a ≠ b := fun h => e (by rw [h])
      exact Ev.val (by simp [this])
theorem laws_eqIntS_ev (a b : List Int) (hl : a.length ≤ 1048576) : Ev (fun k => laws_eqIntS.f k a b) (decide (a = b)) := by
  unfold laws_eqIntS.f
  by_cases hab : a.length = b.length
  · simp (disch := omega) only [if_pos, if_neg, w64, rdn, rd0, tn, sc, Option.bind_some, ↓reduceIte, Bool.false_eq_true, Bool.true_eq_false]
    exact laws_eqIntS_l0 a b hl hab _ 0 rfl (by omega) (fun j h => by omega)
  · simp (disch := omega) only [if_pos, if_neg, w64, rdn, rd0, tn, sc, Option.bind_some, ↓reduceIte, Bool.false_eq_true, Bool.true_eq_false]
    have : a ≠ b := fun h => hab (by rw [h])
    exact Ev.val (by simp [this])
theorem laws_eqIntS_self (a : List Int) (hl : a.length ≤ 1048576) : Ev (fun k => laws_eqIntS.f k a a) true := by
  have h := laws_eqIntS_ev a a hl
  simpa using h

theorem laws_markIntS_l0 (n : Nat) (hn : n ≤ 1048576) (m : Nat) (hm : m ≤ 16777216) : ∀ (d : Nat) (x : List Int) (i : Nat), n - i = d → i ≤ n → x.length = n → (∀ j, j < i → G x j = (m : Int) + j) → Ev (fun k => laws_markIntS.l0 k x ((m + i : Nat) : Int) (i : Int)) (((m + n : Nat) : Int), mk n (fun j => (m : Int) + j)) := by
  intro d
  induction d with
  | zero =>
    intro x i hd hi hx hj
    refine Ev.step (fun k => laws_markIntS.l0.eq_2 ..) ?_
    simp (disch := omega) only [if_pos, if_neg, w64, rdn, rd0, tn, sc, Option.bind_some, ↓reduceIte, Bool.false_eq_true, Bool.true_eq_false]
    obtain rfl : i = n := by omega
    exact Ev.val (by rw [Prod.mk.injEq]; exact ⟨rfl, mk_eq_iff.2 ⟨hx, hj⟩⟩)
  | succ d ih =>
    intro x i hd hi hx hj
    refine Ev.step (fun k => laws_markIntS.l0.eq_2 ..) ?_
    simp (disch := omega) only [if_pos, if_neg, w64, rdn, rd0, tn, sc, Option.bind_some, ↓reduceIte, Bool.false_eq_true, Bool.true_eq_false]
    refine ih _ (i + 1) (by omega) (by omega) (by simp [hx]) ?_
    intro j hji
    by_cases e : j = i
    · subst e; rw [G_set_self _ (by omega)]; simp
    · rw [G_set_ne _ e]; exact hj j (by omega)
theorem laws_markIntS_ev (x : List Int) (hn : x.length ≤ 1048576) : Ev (fun k => laws_markIntS.f k x 1) (((1 + x.length : Nat) : Int), mk x.length (fun j => (1 : Int) + j)) := by
  unfold laws_markIntS.f
  exact laws_markIntS_l0 x.length hn 1 (by omega) _ x 0 rfl (by omega) rfl (fun j h => by omega)
theorem laws_markIntS_ev2 (x : List Int) (m : Nat) (hm : m ≤ 16777216) (hn : x.length ≤ 1048576) : Ev (fun k => laws_markIntS.f k x (m : Int)) (((m + x.length : Nat) : Int), mk x.length (fun j => (m : Int) + j)) := by
  unfold laws_markIntS.f
  exact laws_markIntS_l0 x.length hn m hm _ x 0 rfl (by omega) rfl (fun j h => by omega)

theorem laws_heldIntS_l0 (n : Nat) (hn : n ≤ 1048576) : ∀ (d : Nat) (i : Nat), n - i = d → i ≤ n → Ev (fun k => laws_heldIntS.l0 k (mk n (fun j => (1 : Int) + j)) ((1 + i : Nat) : Int) (i : Int)) ((1 + n : Nat) : Int) := by
  intro d
  induction d with
  | zero =>
    intro i hd hi
    refine Ev.step (fun k => laws_heldIntS.l0.eq_2 ..) ?_
    simp only [mk_length]
    simp (disch := omega) only [if_pos, if_neg, w64, rdn, rd0, tn, sc, Option.bind_some, ↓reduceIte, Bool.false_eq_true, Bool.true_eq_false]
    obtain rfl : i = n := by omega
    exact Ev.now _
  | succ d ih =>
    intro i hd hi
    refine Ev.step (fun k => laws_heldIntS.l0.eq_2 ..) ?_
    have e : G (mk n (fun j => (1 : Int) + j)) i = ((1 + i : Nat) : Int) := by rw [G_mk _ (by omega)]; omega
    simp only [mk_length]
    simp (disch := omega) only [if_pos, if_neg, w64, rdn, rd0, tn, sc, Option.bind_some, ↓reduceIte, Bool.false_eq_true, Bool.true_eq_false]
    exact ih (i + 1) (by omega) (by omega)
theorem laws_heldIntS_ev (n : Nat) (hn : n ≤ 1048576) : Ev (fun k => laws_heldIntS.f k (mk n (fun j => (1 : Int) + j)) 1) ((1 + n : Nat) : Int) := by
  unfold laws_heldIntS.f
  exact laws_heldIntS_l0 n hn _ 0 rfl (by omega)

theorem spec_l1In_eq (a b c : Int) : spec_l1In.f a b c = some (decide (b ≤ a ∧ a ≤ c)) := by
  unfold spec_l1In.f
  by_cases h : b ≤ a <;> simp [h]

theorem spec_NetOk_l2 (l : List Int) (h6 : l.length ≤ 6) (hr : ∀ j, j < l.length → 0 ≤ G l j ∧ G l j < 2 ^ l.length) (i : Nat) (hi : i < l.length) (r : Bool)
    (hbad : ∀ k, k < l.length → ¬ ((adj l i k ↔ adj l k i) ∧ ¬ (k = i ∧ adj l i i)) → r = false)
    (hgood : (∀ k, k < l.length → (adj l i k ↔ adj l k i)) → ¬ adj l i i → Ev (fun k => spec_NetOk.l1 k l ((i + 1 : Nat) : Int)) r) :
    ∀ (d : Nat) (j : Nat), l.length - j = d → j ≤ l.length → (∀ k, k < j → (adj l i k ↔ adj l k i) ∧ ¬ (k = i ∧ adj l i i)) →
      Ev (fun k => spec_NetOk.l2 k l (i : Int) (j : Int)) r := by
  intro d
  induction d with
  | zero =>
    intro j hd hj hk
    refine Ev.step (fun k => spec_NetOk.l2.eq_2 ..) ?_
    simp (disch := omega) only [if_pos, if_neg, w64, rdn, rd0, tn, sc, Option.bind_some, ↓reduceIte, Bool.false_eq_true, Bool.true_eq_false]
    exact hgood (fun k hkl => (hk k (by omega)).1) (fun h => (hk i (by omega)).2 ⟨rfl, h⟩)
  | succ d ih =>
    intro j hd hj hk
    refine Ev.step (fun k => spec_NetOk.l2.eq_2 ..) ?_
    have b1 := bit_mod (G l i) (j := j) (by omega) (hr i hi).1
    have b2 := bit_mod (G l j) (j := i) (by omega) (hr j (by omega)).1
    have m1 := Int.emod_two_eq (G l i / 2 ^ j)
    have m2 := Int.emod_two_eq (G l j / 2 ^ i)
    by_cases e : adj l i j ↔ adj l j i
    · have e' : G l i / 2 ^ j % 2 = G l j / 2 ^ i % 2 := by
        unfold adj at e
        by_cases c : G l i / 2 ^ j % 2 = 1
        · rw [c, e.1 c]
        · have c2 := fun h => c (e.2 h)
          omega
      simp only [rdn, b1, b2]
      by_cases eji : j = i
      · by_cases ea : G l i / 2 ^ j % 2 = 1
        · simp (disch := omega) only [if_pos, if_neg, w64, rdn, rd0, tn, sc, Option.bind_some, ↓reduceIte, Bool.false_eq_true, Bool.true_eq_false]
          refine Ev.val (hbad j (by omega) (fun h => h.2 ⟨eji, ?_⟩)).symm
          rw [eji] at ea; exact ea
        · simp (disch := omega) only [if_pos, if_neg, w64, rdn, rd0, tn, sc, Option.bind_some, ↓reduceIte, Bool.false_eq_true, Bool.true_eq_false]
          refine ih _ (by omega) (by omega) ?_
          intro k hkj
          by_cases e'' : k = j
          · subst e''; refine ⟨e, fun h => ea ?_⟩; have := h.2; rw [eji]; exact this
          · exact hk k (by omega)
      · simp (disch := omega) only [if_pos, if_neg, w64, rdn, rd0, tn, sc, Option.bind_some, ↓reduceIte, Bool.false_eq_true, Bool.true_eq_false]
        refine ih _ (by omega) (by omega) ?_
        intro k hkj
        by_cases e'' : k = j
        · subst e''; exact ⟨e, fun h => eji h.1⟩
        · exact hk k (by omega)
    · have e' : ¬ G l i / 2 ^ j % 2 = G l j / 2 ^ i % 2 := by
        intro h
        apply e
        unfold adj
        rw [h]
      simp only [rdn, b1, b2]
      simp (disch := omega) only [if_pos, if_neg, w64, rdn, rd0, tn, sc, Option.bind_some, ↓reduceIte, Bool.false_eq_true, Bool.true_eq_false]
      exact Ev.val (hbad j (by omega) (fun h => e h.1)).symm
theorem spec_NetOk_l1 (l : List Int) (h1 : 1 ≤ l.length) (h6 : l.length ≤ 6) (hr : ∀ j, j < l.length → 0 ≤ G l j ∧ G l j < 2 ^ l.length) : ∀ (d : Nat) (i : Nat), l.length - i = d → i ≤ l.length →
    (∀ j, j < i → (¬ adj l j j ∧ ∀ k, k < l.length → (adj l j k ↔ adj l k j))) → Ev (fun k => spec_NetOk.l1 k l (i : Int)) (decide (NetP l)) := by
  intro d
  induction d with
  | zero =>
    intro i hd hi hj
    refine Ev.step (fun k => spec_NetOk.l1.eq_2 ..) ?_
    simp (disch := omega) only [if_pos, if_neg, w64, rdn, rd0, tn, sc, Option.bind_some, ↓reduceIte, Bool.false_eq_true, Bool.true_eq_false]
    have : NetP l := ⟨h1, h6, fun j h => ⟨(hr j h).1, (hr j h).2, (hj j (by omega)).1, (hj j (by omega)).2⟩⟩
    exact Ev.val (by simp [this])
  | succ d ih =>
    intro i hd hi hj
    refine Ev.step (fun k => spec_NetOk.l1.eq_2 ..) ?_
    simp (disch := omega) only [if_pos, if_neg, w64, rdn, rd0, tn, sc, Option.bind_some, ↓reduceIte, Bool.false_eq_true, Bool.true_eq_false]
    refine spec_NetOk_l2 l h6 hr i (by omega) _ ?_ ?_ _ 0 rfl (by omega) (fun k h => by omega)
    · intro k hk hn
      have : ¬ NetP l := fun p => hn ⟨(p.2.2 i (by omega)).2.2.2 k hk, fun h => (p.2.2 i (by omega)).2.2.1 h.2⟩
      simp [this]
    · intro hall hirr
      refine ih _ (by omega) (by omega) ?_
      intro j hji
      by_cases e' : j = i
      · subst e'; exact ⟨hirr, hall⟩
      · exact hj j (by omega)
theorem spec_NetOk_l0 (l : List Int) (h1 : 1 ≤ l.length) (h6 : l.length ≤ 6) : ∀ (d : Nat) (i : Nat), l.length - i = d → i ≤ l.length →
    (∀ j, j < i → 0 ≤ G l j ∧ G l j < 2 ^ l.length) → Ev (fun k => spec_NetOk.l0 k l (i : Int)) (decide (NetP l)) := by
  intro d
  induction d with
  | zero =>
    intro i hd hi hj
    refine Ev.step (fun k => spec_NetOk.l0.eq_2 ..) ?_
    simp (disch := omega) only [if_pos, if_neg, w64, rdn, rd0, tn, sc, Option.bind_some, ↓reduceIte, Bool.false_eq_true, Bool.true_eq_false]
    exact spec_NetOk_l1 l h1 h6 (fun j h => hj j (by omega)) _ 0 rfl (by omega) (fun j h => by omega)
  | succ d ih =>
    intro i hd hi hj
    refine Ev.step (fun k => spec_NetOk.l0.eq_2 ..) ?_
    have hs := shl1 (n := l.length) (by omega)
    have hp := pow_lt63 (n := l.length) (by omega)
    have hq := pow_pos2 l.length
    have hw : wrap64 ((2 : Int) ^ l.length - 1) = 2 ^ l.length - 1 := w64 (by omega) (by omega)
    simp only [rdn, hs, hw, spec_l1In_eq, Option.bind_some]
    by_cases e : 0 ≤ G l i ∧ G l i ≤ 2 ^ l.length - 1
    · simp only [e, and_self, decide_true]
      simp (disch := omega) only [if_pos, if_neg, w64, rdn, rd0, tn, sc, Option.bind_some, ↓reduceIte, Bool.false_eq_true, Bool.true_eq_false]
      refine ih _ (by omega) (by omega) ?_
      intro j hji
      by_cases e' : j = i
      · subst e'; omega
      · exact hj j (by omega)
    · simp only [e, decide_false]
      simp (disch := omega) only [if_pos, if_neg, w64, rdn, rd0, tn, sc, Option.bind_some, ↓reduceIte, Bool.false_eq_true, Bool.true_eq_false]
      have : ¬ NetP l := fun p => e ⟨(p.2.2 i (by omega)).1, by have := (p.2.2 i (by omega)).2.1; omega⟩
      exact Ev.val (by simp [this])
theorem spec_NetOk_ev (l : List Int) (hl : l.length ≤ 1048576) : Ev (fun k => spec_NetOk.f k l) (decide (NetP l)) := by
  unfold spec_NetOk.f
  simp only [spec_l1In_eq, Option.bind_some]
  by_cases h : 1 ≤ l.length ∧ l.length ≤ 6
  · have h' : (1 : Int) ≤ (l.length : Int) ∧ (l.length : Int) ≤ 6 := by omega
    simp only [h', and_self, decide_true]
    simp (disch := omega) only [if_pos, if_neg, w64, rdn, rd0, tn, sc, Option.bind_some, ↓reduceIte, Bool.false_eq_true, Bool.true_eq_false]
    exact spec_NetOk_l0 l h.1 h.2 _ 0 rfl (by omega) (fun j h => by omega)
  · have h' : ¬ ((1 : Int) ≤ (l.length : Int) ∧ (l.length : Int) ≤ 6) := by omega
    simp only [h', decide_false]
    simp (disch := omega) only [if_pos, if_neg, w64, rdn, rd0, tn, sc, Option.bind_some, ↓reduceIte, Bool.false_eq_true, Bool.true_eq_false]
    have : ¬ NetP l := fun p => h ⟨p.1, p.2.1⟩
    exact Ev.val (by simp [this])

theorem spec_StateOk_l0 (a : Int) (l : List Int) (hl : l.length ≤ 1048576) : ∀ (d : Nat) (i : Nat), l.length - i = d → i ≤ l.length → (∀ j, j < i → 0 ≤ G l j ∧ G l j < a) → Ev (fun k => spec_StateOk.l0 k a l (i : Int)) (decide (StateP a l)) := by
  intro d
  induction d with
  | zero =>
    intro i hd hi hj
    refine Ev.step (fun k => spec_StateOk.l0.eq_2 ..) ?_
    simp only [spec_l1In_eq, Option.bind_some]
    obtain rfl : i = l.length := by omega
    by_cases h : 3 ≤ a ∧ a ≤ 5
    · simp only [h, and_self, decide_true]
      simp (disch := omega) only [if_pos, if_neg, w64, rdn, rd0, tn, sc, Option.bind_some, ↓reduceIte, Bool.false_eq_true, Bool.true_eq_false]
      refine Ev.val ?_
      rw [decide_eq_decide]
      unfold StateP
      constructor
      · intro e; exact ⟨h.1, h.2, by omega, by omega, hj⟩
      · intro e; have := e.2.2.1; have := e.2.2.2.1; omega
    · simp only [h, decide_false]
      simp (disch := omega) only [if_pos, if_neg, w64, rdn, rd0, tn, sc, Option.bind_some, ↓reduceIte, Bool.false_eq_true, Bool.true_eq_false]
      refine Ev.val ?_
      have : ¬ StateP a l := fun p => h ⟨p.1, p.2.1⟩
      simp [this]
  | succ d ih =>
    intro i hd hi hj
    refine Ev.step (fun k => spec_StateOk.l0.eq_2 ..) ?_
    by_cases e0 : G l i < 0
    · simp (disch := omega) only [if_pos, if_neg, w64, rdn, rd0, tn, sc, Option.bind_some, ↓reduceIte, Bool.false_eq_true, Bool.true_eq_false]
      refine Ev.val ?_
      have : ¬ StateP a l := fun p => by have := p.2.2.2.2 i (by omega); omega
      simp [this]
    · by_cases e1 : G l i ≥ a
      · simp (disch := omega) only [if_pos, if_neg, w64, rdn, rd0, tn, sc, Option.bind_some, ↓reduceIte, Bool.false_eq_true, Bool.true_eq_false]
        refine Ev.val ?_
        have : ¬ StateP a l := fun p => by have := p.2.2.2.2 i (by omega); omega
        simp [this]
      · simp (disch := omega) only [if_pos, if_neg, w64, rdn, rd0, tn, sc, Option.bind_some, ↓reduceIte, Bool.false_eq_true, Bool.true_eq_false]
        refine ih (i + 1) (by omega) (by omega) ?_
        intro j hji
        by_cases e' : j = i
        · subst e'; omega
        · exact hj j (by omega)
theorem spec_StateOk_ev (a : Int) (l : List Int) (hl : l.length ≤ 1048576) : Ev (fun k => spec_StateOk.f k a l) (decide (StateP a l)) := by
  unfold spec_StateOk.f
  exact spec_StateOk_l0 a l hl _ 0 rfl (by omega) (fun j h => by omega)

theorem spec_l3Ok_ev (net s : List Int) (kinds : Int) (hn : net.length ≤ 1048576) (hs : s.length ≤ 1048576) : Ev (fun k => spec_l3Ok.f k net kinds s) (decide (Asked net kinds s)) := by
  unfold spec_l3Ok.f
  refine Ev.bind (spec_NetOk_ev net hn) ?_
  by_cases h1 : NetP net
  · simp only [h1, decide_true]
    simp (disch := omega) only [if_pos, if_neg, w64, rdn, rd0, tn, sc, Option.bind_some, ↓reduceIte, Bool.false_eq_true, Bool.true_eq_false]
    refine Ev.bind (spec_StateOk_ev kinds s hs) ?_
    by_cases h2 : StateP kinds s
    · simp only [h2, decide_true]
      simp (disch := omega) only [if_pos, if_neg, w64, rdn, rd0, tn, sc, Option.bind_some, ↓reduceIte, Bool.false_eq_true, Bool.true_eq_false]
      refine Ev.val ?_
      rw [Bool.eq_iff_iff, beq_iff_eq, decide_eq_true_eq]
      unfold Asked
      constructor
      · intro h; exact ⟨h1, h2, by omega⟩
      · intro h; have := h.2.2; omega
    · simp only [h2, decide_false]
      simp (disch := omega) only [if_pos, if_neg, w64, rdn, rd0, tn, sc, Option.bind_some, ↓reduceIte, Bool.false_eq_true, Bool.true_eq_false]
      have : ¬ Asked net kinds s := fun h => h2 h.2.1
      exact Ev.val (by simp [this])
  · simp only [h1, decide_false]
    simp (disch := omega) only [if_pos, if_neg, w64, rdn, rd0, tn, sc, Option.bind_some, ↓reduceIte, Bool.false_eq_true, Bool.true_eq_false]
    have : ¬ Asked net kinds s := fun h => h1 h.1
    exact Ev.val (by simp [this])

theorem spec_l6Rise_eq (a b : Int) (ha : 0 ≤ a ∧ a < 3) (hb : 0 ≤ b ∧ b < 3) : spec_l6Rise.f a b = some (rise a b) := by
  unfold spec_l6Rise.f rise
  have h1 : wrap64 (b - a) = b - a := w64 (by omega) (by omega)
  have h2 : wrap64 (b - a + 3) = b - a + 3 := w64 (by omega) (by omega)
  have h3 : wrap64 (b - a + 3 + 1) = b - a + 4 := by rw [w64 (by omega) (by omega)]; omega
  rw [h1, h2, h3, tmod_nn (by omega), w64 (by omega) (by omega)]

-- needs Heights
def bit (x : Int) (j : Nat) : Prop := x / 2 ^ j % 2 = 1
instance (x : Int) (j : Nat) : Decidable (bit x j) := by unfold bit; infer_instance
/-- How many of the first n a set has. -/
def cnt (x : Int) (n : Nat) : Int := sumN (fun i => if bit x i then 1 else 0) n
theorem cnt_bd (x : Int) (n : Nat) : 0 ≤ cnt x n ∧ cnt x n ≤ n := by
  induction n with
  | zero => simp [cnt, sumN]
  | succ n ih =>
    have e : cnt x (n + 1) = cnt x n + (if bit x n then 1 else 0) := rfl
    rw [e]; split <;> omega
theorem cnt_more {x y : Int} {j : Nat} (hb : ¬ bit x j) (hy : ∀ k, bit y k ↔ (bit x k ∨ k = j)) : ∀ n, cnt y n = cnt x n + if j < n then 1 else 0
  | 0 => by simp [cnt, sumN]
  | n + 1 => by
    have e1 : cnt y (n + 1) = cnt y n + (if bit y n then 1 else 0) := rfl
    have e2 : cnt x (n + 1) = cnt x n + (if bit x n then 1 else 0) := rfl
    rw [e1, e2, cnt_more hb hy n]
    by_cases e : n = j
    · subst e
      have : bit y n := (hy n).2 (Or.inr rfl)
      simp [this, hb]
    · have : bit y n ↔ bit x n := by rw [hy n]; simp [e]
      simp only [this]
      by_cases e3 : j < n
      · simp [e3, show j < n + 1 from by omega]; omega
      · simp [e3, show ¬ j < n + 1 from by omega]
structure SInv (net s : List Int) (Old : Nat → Prop) (f : Nat) (x : List Int) (z : Int) : Prop where
  lx : x.length = s.length
  z0 : 0 ≤ z
  z1 : z < 64
  ent : ∀ a, a < s.length → bit z a → Old a ∨ (¬ Old a ∧ f ≤ a ∧ WayTo net s.length f a ∧ ∀ g, Heights net s g → G x a = g a - g f)
  old : ∀ a, a < s.length → Old a → bit z a
  zer : ∀ a, a < s.length → ¬ bit z a → G x a = 0
  upf : ∀ a, a < s.length → a ≤ f → bit z a
  xf : G x f = 0
  bnd : ∀ a, a < s.length → - cnt z s.length ≤ G x a ∧ G x a ≤ cnt z s.length
  ocl : ∀ a b, a < s.length → b < s.length → Old a → adj net a b → Old b
  odf : ∀ g, Heights net s g → ∀ a b, a < s.length → b < s.length → Old a → adj net a b → G x b - G x a = g b - g a
  onm : ∀ a, a < s.length → Old a → Least net s.length a → G x a = 0
theorem sinv_more {net s : List Int} (hA : Asked net 3 s) {Old : Nat → Prop} {f : Nat} {x : List Int} {z y : Int} (h : SInv net s Old f x z) (hf : f < s.length) {i j : Nat} (hi : i < s.length) (hj : j < s.length) (ha : adj net i j) (hbi : bit z i) (hb : ¬ bit z j)
    (y0 : 0 ≤ y) (y1 : y < 64) (hy : ∀ k, bit y k ↔ (bit z k ∨ k = j)) : SInv net s Old f (x.set j (G x i + rise (G s i) (G s j))) y := by
  have hT := cnt_more hb hy s.length
  rw [if_pos hj] at hT
  have hr := rise_le (G s i) (G s j)
  have jf : f < j := by
    apply Nat.lt_of_not_le
    intro hle
    exact hb (h.upf j hj hle)
  have jno : ¬ Old j := fun ho => hb (h.old j hj ho)
  have ino : ¬ Old i := fun ho => jno (h.ocl i j hi hj ho ha)
  have nej : ∀ a, bit z a → a ≠ j := fun a hab e => by subst e; exact hb hab
  have xne : ∀ a, a ≠ j → G (x.set j (G x i + rise (G s i) (G s j))) a = G x a := fun a e => G_set_ne _ e
  have xj : G (x.set j (G x i + rise (G s i) (G s j))) j = G x i + rise (G s i) (G s j) := G_set_self _ (by rw [h.lx]; exact hj)
  rcases h.ent i hi hbi with ho | ⟨_, hfi, hwi, hgi⟩
  · exact absurd ho ino
  constructor
  · simp [h.lx]
  · exact y0
  · exact y1
  · intro a hal hab
    rcases (hy a).1 hab with hz | rfl
    · rcases h.ent a hal hz with ho | ⟨c1, c2, c3, c4⟩
      · exact Or.inl ho
      · exact Or.inr ⟨c1, c2, c3, fun g hg => by rw [xne a (nej a hz)]; exact c4 g hg⟩
    · exact Or.inr ⟨jno, by omega, hwi.trans (WayTo.step hi hj ha), fun g hg => by rw [xj, hgi g hg, hg i a hi hj ha]; omega⟩
  · intro a hal ho; exact (hy a).2 (Or.inl (h.old a hal ho))
  · intro a hal hab
    have n1 : ¬ bit z a := fun hz => hab ((hy a).2 (Or.inl hz))
    have n2 : a ≠ j := fun e => hab ((hy a).2 (Or.inr e))
    rw [xne a n2]; exact h.zer a hal n1
  · intro a hal haf; exact (hy a).2 (Or.inl (h.upf a hal haf))
  · rw [xne f (by omega)]; exact h.xf
  · intro a hal
    rw [hT]
    have hb1 := h.bnd a hal
    have hb2 := h.bnd i hi
    by_cases e : a = j
    · subst e; rw [xj]; omega
    · rw [xne a e]; omega
  · exact h.ocl
  · intro g hg a b hal hbl ho hab
    have hob := h.ocl a b hal hbl ho hab
    rw [xne a (nej a (h.old a hal ho)), xne b (nej b (h.old b hbl hob))]
    exact h.odf g hg a b hal hbl ho hab
  · intro a hal ho hl
    rw [xne a (nej a (h.old a hal ho))]; exact h.onm a hal ho hl
theorem l7_l3 (net s : List Int) (hA : Asked net 3 s) (Old : Nat → Prop) (f : Nat) (hf : f < s.length) (r : List Int × Bool) (c0 : Int) (i : Nat) (hi : i < s.length)
    (hnext : ∀ x z again, SInv net s Old f x z → c0 ≤ cnt z s.length → (again = true → c0 < cnt z s.length) → (again = false → ∀ a, a < i + 1 → bit z a → ∀ b, b < s.length → adj net a b → bit z b) → Ev (fun k => spec_l7Heights.l2 k net s x z (f : Int) again ((i + 1 : Nat) : Int)) r) :
    ∀ (d j : Nat) (x : List Int) (z : Int) (again : Bool), j + d = s.length → SInv net s Old f x z → c0 ≤ cnt z s.length → (again = true → c0 < cnt z s.length) → (again = false → ∀ a, a < i → bit z a → ∀ b, b < s.length → adj net a b → bit z b) →
      (again = false → bit z i → ∀ b, b < j → adj net i b → bit z b) → Ev (fun k => spec_l7Heights.l3 k net s x z (f : Int) again (i : Int) (j : Int)) r := by
  intro d
  have h6 := asked6 hA
  have hl := hA.2.2
  have fin : ∀ x z again, SInv net s Old f x z → c0 ≤ cnt z s.length → (again = true → c0 < cnt z s.length) → (again = false → ∀ a, a < i → bit z a → ∀ b, b < s.length → adj net a b → bit z b) → (again = false → bit z i → ∀ b, b < s.length → adj net i b → bit z b) →
      Ev (fun k => spec_l7Heights.l2 k net s x z (f : Int) again ((i + 1 : Nat) : Int)) r := by
    intro x z again h hc ht hp hq
    refine hnext x z again h hc ht (fun hg a ha hza b hb hab => ?_)
    by_cases e : a = i
    · subst e; exact hq hg hza b hb hab
    · exact hp hg a (by omega) hza b hb hab
  induction d with
  | zero =>
    intro j x z again hd h hc ht hp hq
    refine Ev.step (fun k => spec_l7Heights.l3.eq_2 ..) ?_
    simp (disch := omega) only [if_pos, if_neg, w64, rdn, rd0, tn, sc, Option.bind_some, ↓reduceIte, Bool.false_eq_true, Bool.true_eq_false]
    refine Ev.step (fun k => spec_l7Heights.j4.eq_2 ..) ?_
    simp (disch := omega) only [if_pos, if_neg, w64, rdn, rd0, tn, sc, Option.bind_some, ↓reduceIte, Bool.false_eq_true, Bool.true_eq_false]
    exact fin x z again h hc ht hp (fun hg hz b hb hab => hq hg hz b (by omega) hab)
  | succ d ih =>
    intro j x z again hd h hc ht hp hq
    refine Ev.step (fun k => spec_l7Heights.l3.eq_2 ..) ?_
    have hzi := shr_bit h.z0 (j := i) (by omega)
    have hxl := h.lx
    by_cases e0 : bit z i
    · have e1 : (z / 2 ^ i % 2 == 1) = true := beq_iff_eq.2 e0
      simp only [hzi, e1]
      clear hzi e1
      simp (disch := omega) only [if_pos, if_neg, w64, rdn, rd0, tn, sc, Option.bind_some, ↓reduceIte, Bool.false_eq_true, Bool.true_eq_false]
      refine Ev.step (fun k => spec_l7Heights.j4.eq_2 ..) ?_
      have hb := bit_mod (G net i) (j := j) (by omega) (hA.1.2.2 i (by omega)).1
      have hzj := shr_bit h.z0 (j := j) (by omega)
      have er := spec_l6Rise_eq _ _ (hA.2.1.2.2.2.2 i (by omega)) (hA.2.1.2.2.2.2 j (by omega))
      have hrb := rise_le (G s i) (G s j)
      have hbi := h.bnd i hi
      have hcb := cnt_bd z s.length
      have m2 := Int.emod_two_eq (z / 2 ^ j)
      simp only [rdn, tn, hb, hzj, er, Option.bind_some]
      clear hb hzj er
      by_cases e2 : G net i / 2 ^ j % 2 = 1
      · by_cases e3 : bit z j
        · have e3' : z / 2 ^ j % 2 = 1 := e3
          simp (disch := omega) only [if_pos, if_neg, w64, rdn, rd0, tn, sc, Option.bind_some, ↓reduceIte, Bool.false_eq_true, Bool.true_eq_false]
          refine ih (j + 1) x z again (by omega) h hc ht hp (fun hg hz b hb hab => ?_)
          by_cases e : b = j
          · subst e; exact e3
          · exact hq hg hz b (by omega) hab
        · have e3' : z / 2 ^ j % 2 = 0 := by
            rcases m2 with h0 | h1
            · exact h0
            · exact absurd h1 e3
          obtain ⟨y, hy, y0, y1, hyb⟩ := or_bit h.z0 h.z1 (j := j) (by omega)
          have hs := sinv_more hA h hf hi (show j < s.length by omega) e2 e0 e3 y0 y1 hyb
          have hT := cnt_more e3 hyb s.length
          rw [if_pos (by omega)] at hT
          simp only [hy]
          clear hy
          simp (disch := omega) only [if_pos, if_neg, w64, rdn, rd0, tn, sc, Option.bind_some, ↓reduceIte, Bool.false_eq_true, Bool.true_eq_false]
          exact ih (j + 1) _ y true (by omega) hs (by omega) (fun _ => by omega) (fun hg => by cases hg) (fun hg => by cases hg)
      · simp (disch := omega) only [if_pos, if_neg, w64, rdn, rd0, tn, sc, Option.bind_some, ↓reduceIte, Bool.false_eq_true, Bool.true_eq_false]
        refine ih (j + 1) x z again (by omega) h hc ht hp (fun hg hz b hb hab => ?_)
        by_cases e : b = j
        · subst e; exact absurd hab e2
        · exact hq hg hz b (by omega) hab
    · have e1 : (z / 2 ^ i % 2 == 1) = false := beq_eq_false_iff_ne.2 e0
      simp only [hzi, e1]
      clear hzi e1
      simp (disch := omega) only [if_pos, if_neg, w64, rdn, rd0, tn, sc, Option.bind_some, ↓reduceIte, Bool.false_eq_true, Bool.true_eq_false]
      refine Ev.step (fun k => spec_l7Heights.j4.eq_2 ..) ?_
      simp (disch := omega) only [if_pos, if_neg, w64, rdn, rd0, tn, sc, Option.bind_some, ↓reduceIte, Bool.false_eq_true, Bool.true_eq_false]
      exact fin x z again h hc ht hp (fun hg hz => absurd hz e0)
theorem l7_l2 (net s : List Int) (hA : Asked net 3 s) (Old : Nat → Prop) (f : Nat) (hf : f < s.length) (r : List Int × Bool) (c0 : Int)
    (hT : ∀ x z, SInv net s Old f x z → c0 < cnt z s.length → Ev (fun k => spec_l7Heights.l1 k net s x z (f : Int) true) r)
    (hF : ∀ x z, SInv net s Old f x z → (∀ a, a < s.length → bit z a → ∀ b, b < s.length → adj net a b → bit z b) → Ev (fun k => spec_l7Heights.l1 k net s x z (f : Int) false) r) :
    ∀ (d i : Nat) (x : List Int) (z : Int) (again : Bool), i + d = s.length → SInv net s Old f x z → c0 ≤ cnt z s.length → (again = true → c0 < cnt z s.length) → (again = false → ∀ a, a < i → bit z a → ∀ b, b < s.length → adj net a b → bit z b) →
      Ev (fun k => spec_l7Heights.l2 k net s x z (f : Int) again (i : Int)) r := by
  intro d
  have h6 := asked6 hA
  have hl := hA.2.2
  induction d with
  | zero =>
    intro i x z again hd h hc ht hp
    refine Ev.step (fun k => spec_l7Heights.l2.eq_2 ..) ?_
    simp (disch := omega) only [if_pos, if_neg, w64, rdn, rd0, tn, sc, Option.bind_some, ↓reduceIte, Bool.false_eq_true, Bool.true_eq_false]
    cases again with
    | true => exact hT x z h (ht rfl)
    | false => exact hF x z h (fun a ha => hp rfl a (by omega))
  | succ d ih =>
    intro i x z again hd h hc ht hp
    refine Ev.step (fun k => spec_l7Heights.l2.eq_2 ..) ?_
    simp (disch := omega) only [if_pos, if_neg, w64, rdn, rd0, tn, sc, Option.bind_some, ↓reduceIte, Bool.false_eq_true, Bool.true_eq_false]
    exact l7_l3 net s hA Old f hf r c0 i (by omega) (fun x z again h1 h2 h3 h4 => ih (i + 1) x z again (by omega) h1 h2 h3 h4) s.length 0 x z again (by omega) h hc ht hp (fun _ _ b hb => by omega)
theorem l7_l1 (net s : List Int) (hA : Asked net 3 s) (Old : Nat → Prop) (f : Nat) (hf : f < s.length) (r : List Int × Bool)
    (hend : ∀ x z, SInv net s Old f x z → (∀ a, a < s.length → bit z a → ∀ b, b < s.length → adj net a b → bit z b) → Ev (fun k => spec_l7Heights.l0 k net s x z ((f + 1 : Nat) : Int)) r) :
    ∀ (d : Nat) (x : List Int) (z : Int), SInv net s Old f x z → (s.length : Int) - cnt z s.length ≤ d → Ev (fun k => spec_l7Heights.l1 k net s x z (f : Int) true) r := by
  intro d
  have h6 := asked6 hA
  have hl := hA.2.2
  have hF : ∀ x z, SInv net s Old f x z → (∀ a, a < s.length → bit z a → ∀ b, b < s.length → adj net a b → bit z b) → Ev (fun k => spec_l7Heights.l1 k net s x z (f : Int) false) r := by
    intro x z h hc
    refine Ev.step (fun k => spec_l7Heights.l1.eq_2 ..) ?_
    simp (disch := omega) only [if_pos, if_neg, w64, rdn, rd0, tn, sc, Option.bind_some, ↓reduceIte, Bool.false_eq_true, Bool.true_eq_false]
    exact hend x z h hc
  induction d with
  | zero =>
    intro x z h hd
    refine Ev.step (fun k => spec_l7Heights.l1.eq_2 ..) ?_
    simp (disch := omega) only [if_pos, if_neg, w64, rdn, rd0, tn, sc, Option.bind_some, ↓reduceIte, Bool.false_eq_true, Bool.true_eq_false]
    refine l7_l2 net s hA Old f hf r (cnt z s.length) (fun x' z' h' hc' => ?_) hF s.length 0 x z false (by omega) h (Int.le_refl _) (fun hg => by cases hg) (fun _ a ha => by omega)
    have := cnt_bd z' s.length
    omega
  | succ d ih =>
    intro x z h hd
    refine Ev.step (fun k => spec_l7Heights.l1.eq_2 ..) ?_
    simp (disch := omega) only [if_pos, if_neg, w64, rdn, rd0, tn, sc, Option.bind_some, ↓reduceIte, Bool.false_eq_true, Bool.true_eq_false]
    exact l7_l2 net s hA Old f hf r (cnt z s.length) (fun x' z' h' hc' => ih x' z' h' (by omega)) hF s.length 0 x z false (by omega) h (Int.le_refl _) (fun hg => by cases hg) (fun _ a ha => by omega)
theorem l7_l5 (net s x : List Int) (hA : Asked net 3 s) (hx : x.length = s.length) (hb : ∀ a, a < s.length → -100 ≤ G x a ∧ G x a ≤ 100) (i : Nat) (hi : i < s.length) (r : List Int × Bool)
    (hno : ¬ Heights net s (G x) → r = ([], false))
    (hnext : (∀ b, b < s.length → adj net i b → G x b = G x i + rise (G s i) (G s b)) → Ev (fun k => spec_l7Heights.l4 k net s x ((i + 1 : Nat) : Int)) r) :
    ∀ (d j : Nat), j + d = s.length → (∀ b, b < j → adj net i b → G x b = G x i + rise (G s i) (G s b)) → Ev (fun k => spec_l7Heights.l5 k net s x (i : Int) (j : Int)) r := by
  intro d
  have h6 := asked6 hA
  have hl := hA.2.2
  induction d with
  | zero =>
    intro j hd hp
    refine Ev.step (fun k => spec_l7Heights.l5.eq_2 ..) ?_
    simp (disch := omega) only [if_pos, if_neg, w64, rdn, rd0, tn, sc, Option.bind_some, ↓reduceIte, Bool.false_eq_true, Bool.true_eq_false]
    exact hnext (fun b hb hab => hp b (by omega) hab)
  | succ d ih =>
    intro j hd hp
    refine Ev.step (fun k => spec_l7Heights.l5.eq_2 ..) ?_
    have hbt := bit_mod (G net i) (j := j) (by omega) (hA.1.2.2 i (by omega)).1
    have er := spec_l6Rise_eq _ _ (hA.2.1.2.2.2.2 i (by omega)) (hA.2.1.2.2.2.2 j (by omega))
    have b1 := hb i hi
    have b2 := hb j (by omega)
    have hw : wrap64 (G x j - G x i) = G x j - G x i := w64 (by omega) (by omega)
    simp only [rdn, hbt, er, hw, Option.bind_some]
    clear hbt er hw
    by_cases e2 : G net i / 2 ^ j % 2 = 1
    · by_cases e3 : G x j - G x i = rise (G s i) (G s j)
      · simp (disch := omega) only [if_pos, if_neg, w64, rdn, rd0, tn, sc, Option.bind_some, ↓reduceIte, Bool.false_eq_true, Bool.true_eq_false]
        refine ih (j + 1) (by omega) (fun b hb' hab => ?_)
        by_cases e : b = j
        · subst e; omega
        · exact hp b (by omega) hab
      · simp (disch := omega) only [if_pos, if_neg, w64, rdn, rd0, tn, sc, Option.bind_some, ↓reduceIte, Bool.false_eq_true, Bool.true_eq_false]
        refine Ev.val (hno (fun hh => e3 ?_)).symm
        rw [hh i j hi (by omega) e2]; omega
    · simp (disch := omega) only [if_pos, if_neg, w64, rdn, rd0, tn, sc, Option.bind_some, ↓reduceIte, Bool.false_eq_true, Bool.true_eq_false]
      refine ih (j + 1) (by omega) (fun b hb' hab => ?_)
      by_cases e : b = j
      · subst e; exact absurd hab e2
      · exact hp b (by omega) hab
theorem l7_l4 (net s x : List Int) (hA : Asked net 3 s) (hx : x.length = s.length) (hb : ∀ a, a < s.length → -100 ≤ G x a ∧ G x a ≤ 100) (r : List Int × Bool)
    (hno : ¬ Heights net s (G x) → r = ([], false)) (hyes : Heights net s (G x) → r = (x, true)) :
    ∀ (d i : Nat), i + d = s.length → (∀ a b, a < i → b < s.length → adj net a b → G x b = G x a + rise (G s a) (G s b)) → Ev (fun k => spec_l7Heights.l4 k net s x (i : Int)) r := by
  intro d
  have h6 := asked6 hA
  have hl := hA.2.2
  induction d with
  | zero =>
    intro i hd hp
    refine Ev.step (fun k => spec_l7Heights.l4.eq_2 ..) ?_
    simp (disch := omega) only [if_pos, if_neg, w64, rdn, rd0, tn, sc, Option.bind_some, ↓reduceIte, Bool.false_eq_true, Bool.true_eq_false]
    exact Ev.val (hyes (fun a b ha hb' hab => hp a b (by omega) hb' hab)).symm
  | succ d ih =>
    intro i hd hp
    refine Ev.step (fun k => spec_l7Heights.l4.eq_2 ..) ?_
    simp (disch := omega) only [if_pos, if_neg, w64, rdn, rd0, tn, sc, Option.bind_some, ↓reduceIte, Bool.false_eq_true, Bool.true_eq_false]
    refine l7_l5 net s x hA hx hb i (by omega) r hno (fun hall => ih (i + 1) (by omega) (fun a b ha hb' hab => ?_)) s.length 0 (by omega) (fun b hb' => by omega)
    by_cases e : a = i
    · subst e; exact hall b hb' hab
    · exact hp a b (by omega) hb' hab
structure PInv (net s : List Int) (f : Nat) (x : List Int) (z : Int) : Prop where
  lx : x.length = s.length
  z0 : 0 ≤ z
  z1 : z < 64
  zer : ∀ a, a < s.length → ¬ bit z a → G x a = 0
  upf : ∀ a, a < s.length → a < f → bit z a
  bnd : ∀ a, a < s.length → - cnt z s.length ≤ G x a ∧ G x a ≤ cnt z s.length
  ocl : ∀ a b, a < s.length → b < s.length → bit z a → adj net a b → bit z b
  odf : ∀ g, Heights net s g → ∀ a b, a < s.length → b < s.length → bit z a → adj net a b → G x b - G x a = g b - g a
  onm : ∀ a, a < s.length → bit z a → Least net s.length a → G x a = 0
theorem l7_l0 (net s : List Int) (hA : Asked net 3 s) : ∀ (d f : Nat) (x : List Int) (z : Int), f + d = s.length → PInv net s f x z → Ev (fun k => spec_l7Heights.l0 k net s x z (f : Int)) (heightRow net s) := by
  intro d
  have h6 := asked6 hA
  have hl := hA.2.2
  induction d with
  | zero =>
    intro f x z hd h
    refine Ev.step (fun k => spec_l7Heights.l0.eq_2 ..) ?_
    simp (disch := omega) only [if_pos, if_neg, w64, rdn, rd0, tn, sc, Option.bind_some, ↓reduceIte, Bool.false_eq_true, Bool.true_eq_false]
    refine l7_l4 net s x hA h.lx (fun a ha => by have := h.bnd a ha; have := cnt_bd z s.length; omega) _ (fun hn => heightRow_no (fun g => ?_)) (fun hh => ?_) s.length 0 (by omega) (fun a b ha => by omega)
    · obtain ⟨_, g, hg⟩ := g
      exact hn (fun a b ha hb hab => by have := h.odf g hg a b ha hb (h.upf a ha (by omega)) hab; have := hg a b ha hb hab; omega)
    · exact heightRow_eq hA h.lx ⟨hh, fun i hi hls => h.onm i hi (h.upf i hi (by omega)) hls⟩
  | succ d ih =>
    intro f x z hd h
    refine Ev.step (fun k => spec_l7Heights.l0.eq_2 ..) ?_
    have hzf := shr_bit h.z0 (j := f) (by omega)
    simp only [hzf]
    clear hzf
    by_cases e0 : bit z f
    · have e0' : z / 2 ^ f % 2 = 1 := e0
      simp (disch := omega) only [if_pos, if_neg, w64, rdn, rd0, tn, sc, Option.bind_some, ↓reduceIte, Bool.false_eq_true, Bool.true_eq_false]
      refine ih (f + 1) x z (by omega) ⟨h.lx, h.z0, h.z1, h.zer, fun a ha haf => ?_, h.bnd, h.ocl, h.odf, h.onm⟩
      by_cases e : a = f
      · subst e; exact e0
      · exact h.upf a ha (by omega)
    · have e0' : ¬ z / 2 ^ f % 2 = 1 := e0
      obtain ⟨y, hy, y0, y1, hyb⟩ := or_bit h.z0 h.z1 (j := f) (by omega)
      have hT := cnt_more e0 hyb s.length
      rw [if_pos (by omega)] at hT
      have hcb := cnt_bd y s.length
      have hold : ∀ a, bit z a → a ≠ f := fun a hab e => by subst e; exact e0 hab
      simp only [hy]
      clear hy
      simp (disch := omega) only [if_pos, if_neg, w64, rdn, rd0, tn, sc, Option.bind_some, ↓reduceIte, Bool.false_eq_true, Bool.true_eq_false]
      have hS : SInv net s (bit z) f x y := by
        constructor
        · exact h.lx
        · exact y0
        · exact y1
        · intro a ha hab
          rcases (hyb a).1 hab with hz | rfl
          · exact Or.inl hz
          · exact Or.inr ⟨e0, Nat.le_refl _, WayTo.refl _ _ _, fun g _ => by rw [h.zer a ha e0]; omega⟩
        · intro a ha ho; exact (hyb a).2 (Or.inl ho)
        · intro a ha hn; exact h.zer a ha (fun hz => hn ((hyb a).2 (Or.inl hz)))
        · intro a ha haf
          by_cases e : a = f
          · exact (hyb a).2 (Or.inr e)
          · exact (hyb a).2 (Or.inl (h.upf a ha (by omega)))
        · exact h.zer f (by omega) e0
        · intro a ha; have := h.bnd a ha; omega
        · exact h.ocl
        · exact h.odf
        · exact h.onm
      refine l7_l1 net s hA (bit z) f (by omega) _ (fun x' z' h' hc' => ?_) s.length x y hS (by omega)
      refine ih (f + 1) x' z' (by omega) ⟨h'.lx, h'.z0, h'.z1, h'.zer, fun a ha haf => h'.upf a ha (by omega), h'.bnd, fun a b ha hb hab hadj => hc' a ha hab b hb hadj, fun g hg a b ha hb hab hadj => ?_, fun a ha hab hls => ?_⟩
      · rcases h'.ent a ha hab with ho | ⟨c1, c2, c3, c4⟩
        · exact h'.odf g hg a b ha hb ho hadj
        · rcases h'.ent b hb (hc' a ha hab b hb hadj) with ho | ⟨d1, d2, d3, d4⟩
          · exact absurd (h'.ocl b a hb ha ho ((adj_sym hA.1 (by omega) (by omega)).1 hadj)) c1
          · rw [c4 g hg, d4 g hg]; omega
      · rcases h'.ent a ha hab with ho | ⟨c1, c2, c3, c4⟩
        · exact h'.onm a ha ho hls
        · have hle := hls f (c3.symm (net_symm hA.1 hA.2.2.symm))
          obtain rfl : a = f := by omega
          exact h'.xf
theorem spec_l7Heights_ev (net s : List Int) (hA : Asked net 3 s) : Ev (fun k => spec_l7Heights.f k net s) (heightRow net s) := by
  unfold spec_l7Heights.f
  have h6 := asked6 hA
  have hl := hA.2.2
  have h0 : ∀ a, ¬ bit 0 a := fun a h => by unfold bit at h; simp at h
  simp (disch := omega) only [if_pos, if_neg, w64, rdn, rd0, tn, sc, Option.bind_some, ↓reduceIte, Bool.false_eq_true, Bool.true_eq_false]
  rw [replicate_mk, hl]
  refine l7_l0 net s hA s.length 0 _ 0 (by omega) ⟨mk_length _ _, by omega, by omega, fun a ha _ => G_mk _ ha, fun a ha h => by omega, fun a ha => ?_, fun a b ha hb hab => absurd hab (h0 a), fun g hg a b ha hb hab => absurd hab (h0 a), fun a ha hab => absurd hab (h0 a)⟩
  rw [G_mk _ ha]; have := cnt_bd 0 s.length; omega

theorem spec_HeightRow_ev (net s : List Int) (hn : net.length ≤ 1048576) (hs : s.length ≤ 1048576) : Ev (fun k => spec_HeightRow.f k net s) (heightRow net s) := by
  unfold spec_HeightRow.f
  refine Ev.bind (spec_l3Ok_ev net s 3 hn hs) ?_
  by_cases h : Asked net 3 s
  · simp only [h, decide_true]
    simp (disch := omega) only [if_pos, if_neg, w64, rdn, rd0, tn, sc, Option.bind_some, ↓reduceIte, Bool.false_eq_true, Bool.true_eq_false]
    refine Ev.bind (spec_l7Heights_ev net s h) ?_
    exact Ev.now _
  · simp only [h, decide_false]
    rw [heightRow_no (fun g => h g.1)]
    simp (disch := omega) only [if_pos, if_neg, w64, rdn, rd0, tn, sc, Option.bind_some, ↓reduceIte, Bool.false_eq_true, Bool.true_eq_false]
    exact Ev.now _

-- needs Fire
theorem spec_l1Near_l0 (net : List Int) (hn : NetP net) (w : Int) (hw : 0 ≤ w) : ∀ (d i : Nat) (x : Int), net.length - i = d → i ≤ net.length → 0 ≤ x → x < 64 → (∀ k, bitOf x k ↔ ∃ j, j < i ∧ bitOf w j ∧ adj net j k) →
    ∃ y, Ev (fun k => spec_l1Near.l0 k net w x (i : Int)) y ∧ 0 ≤ y ∧ y < 64 ∧ ∀ k, bitOf y k ↔ ∃ j, j < net.length ∧ bitOf w j ∧ adj net j k := by
  intro d
  have h6 := hn.2.1
  induction d with
  | zero =>
    intro i x hd hi h0 h64 hb
    have ei : i = net.length := by omega
    refine ⟨x, ?_, h0, h64, by rw [ei] at hb; exact hb⟩
    refine Ev.step (fun k => spec_l1Near.l0.eq_2 ..) ?_
    clear hb
    simp (disch := omega) only [if_pos, if_neg, w64, rdn, rd0, tn, sc, Option.bind_some, ↓reduceIte, Bool.false_eq_true, Bool.true_eq_false]
    exact Ev.now _
  | succ d ih =>
    intro i x hd hi h0 h64 hb
    have hbit := bit_mod w (j := i) (by omega) hw
    by_cases e1 : w / 2 ^ i % 2 = 1
    · have hb64 := net_lt64 hn (show i < net.length by omega)
      obtain ⟨z, hz, hz0, hz64, hzb⟩ := or_two h0 h64 hb64.1 hb64.2
      obtain ⟨y, hy, h1, h2, h3⟩ := ih (i + 1) z (by omega) (by omega) hz0 hz64 (fun k => by
        have g1 := hzb k
        have g2 := hb k
        constructor
        · intro g
          rcases g1.1 g with g | g
          · obtain ⟨j, hj, a, b⟩ := g2.1 g; exact ⟨j, by omega, a, b⟩
          · exact ⟨i, by omega, e1, g⟩
        · rintro ⟨j, hj, a, b⟩
          by_cases ej : j = i
          · subst ej; exact g1.2 (Or.inr b)
          · exact g1.2 (Or.inl (g2.2 ⟨j, by omega, a, b⟩)))
      refine ⟨y, ?_, h1, h2, h3⟩
      refine Ev.step (fun k => spec_l1Near.l0.eq_2 ..) ?_
      clear hb hzb h3
      simp only [rdn, hbit, hz]
      clear hbit
      simp (disch := omega) only [if_pos, if_neg, w64, rdn, rd0, tn, sc, Option.bind_some, ↓reduceIte, Bool.false_eq_true, Bool.true_eq_false]
      exact hy
    · obtain ⟨y, hy, h1, h2, h3⟩ := ih (i + 1) x (by omega) (by omega) h0 h64 (fun k => by
        rw [hb k]
        constructor
        · rintro ⟨j, hj, a, b⟩; exact ⟨j, by omega, a, b⟩
        · rintro ⟨j, hj, a, b⟩
          by_cases ej : j = i
          · subst ej; exact absurd a e1
          · exact ⟨j, by omega, a, b⟩)
      refine ⟨y, ?_, h1, h2, h3⟩
      refine Ev.step (fun k => spec_l1Near.l0.eq_2 ..) ?_
      clear hb h3
      simp only [rdn, hbit]
      clear hbit
      simp (disch := omega) only [if_pos, if_neg, w64, rdn, rd0, tn, sc, Option.bind_some, ↓reduceIte, Bool.false_eq_true, Bool.true_eq_false]
      exact hy
theorem spec_l1Near_ev (net : List Int) (hn : NetP net) (w : Int) (hw : 0 ≤ w) : ∃ y, Ev (fun k => spec_l1Near.f k net w) y ∧ 0 ≤ y ∧ y < 64 ∧ ∀ k, bitOf y k ↔ ∃ j, j < net.length ∧ bitOf w j ∧ adj net j k := by
  unfold spec_l1Near.f
  exact spec_l1Near_l0 net hn w hw _ 0 0 rfl (by omega) (by omega) (by omega) (fun k => ⟨fun g => by unfold bitOf at g; simp at g, fun ⟨j, hj, _⟩ => by omega⟩)

-- needs Fire
theorem spec_l1Far_l2 (net : List Int) (hn : NetP net) (S : Nat → Prop) (w seen : Int) (n : Nat) (hn7 : n ≤ 7) (hw0 : 0 ≤ w) (hw : ∀ k, k < net.length → (bitOf w k ↔ Dist net net.length S k n)) (r : List Int)
    (hend : ∀ (y : List Int), y.length = net.length → (∀ p, p < net.length → G y p = soFar (distOf net net.length S p) ((n + 1 : Nat) : Int)) →
      Ev (fun k => (spec_l1Near.f k net w).bind fun t => (spec_l1Far.l1 k net y (Go.bits .or .i64 seen w) (Go.bits .andNot .i64 t (Go.bits .or .i64 seen w)) ((n + 1 : Nat) : Int))) r) :
    ∀ (d i : Nat) (x : List Int), net.length - i = d → i ≤ net.length → x.length = net.length → (∀ p, p < net.length → G x p = soFar (distOf net net.length S p) (if p < i then ((n + 1 : Nat) : Int) else (n : Int))) →
      Ev (fun k => spec_l1Far.l2 k net x seen w (n : Int) (i : Int)) r := by
  intro d
  have h6 := hn.2.1
  induction d with
  | zero =>
    intro i x hd hi hx hp
    have hnx := hend x hx (fun p hpl => by rw [hp p hpl, if_pos (by omega)])
    refine Ev.step (fun k => spec_l1Far.l2.eq_2 ..) ?_
    clear hp hw hend
    simp (disch := omega) only [if_pos, if_neg, w64, rdn, rd0, tn, sc, Option.bind_some, ↓reduceIte, Bool.false_eq_true, Bool.true_eq_false]
    exact hnx
  | succ d ih =>
    intro i x hd hi hx hp
    have hil : i < net.length := by omega
    refine Ev.step (fun k => spec_l1Far.l2.eq_2 ..) ?_
    have hbit := bit_mod w (j := i) (by omega) hw0
    simp only [rdn, hbit]
    clear hbit
    by_cases e1 : w / 2 ^ i % 2 = 1
    · have hdi := dist_iff.2 ((hw i hil).1 e1)
      have hnx := ih (i + 1) (x.set i (n : Int)) (by omega) (by omega) (by simp [hx]) (fun p hpl => by
        by_cases ep : p = i
        · subst ep; rw [G_set_self _ (by omega), if_pos (by omega), hdi, (soFar_step (v := (n : Int)) (n := n)).1 rfl]
        · rw [G_set_ne _ ep, hp p hpl]
          by_cases g : p < i
          · rw [if_pos g, if_pos (by omega)]
          · rw [if_neg g, if_neg (by omega)])
      clear hp hw hend hdi
      simp (disch := omega) only [if_pos, if_neg, w64, rdn, rd0, tn, sc, Option.bind_some, ↓reduceIte, Bool.false_eq_true, Bool.true_eq_false]
      exact hnx
    · have hne : distOf net net.length S i ≠ (n : Int) := fun g => e1 ((hw i hil).2 (dist_iff.1 g))
      have hnx := ih (i + 1) x (by omega) (by omega) hx (fun p hpl => by
        rw [hp p hpl]
        by_cases ep : p = i
        · subst ep; rw [if_neg (by omega), if_pos (by omega), soFar_step.2 hne]
        · by_cases g : p < i
          · rw [if_pos g, if_pos (by omega)]
          · rw [if_neg g, if_neg (by omega)])
      clear hp hw hend hne
      simp (disch := omega) only [if_pos, if_neg, w64, rdn, rd0, tn, sc, Option.bind_some, ↓reduceIte, Bool.false_eq_true, Bool.true_eq_false]
      exact hnx
theorem spec_l1Far_l1 (net : List Int) (hn : NetP net) (S : Nat → Prop) : ∀ (d n : Nat) (w seen : Int) (x : List Int), net.length + 1 - n = d → n ≤ net.length + 1 → x.length = net.length →
    (∀ p, p < net.length → G x p = soFar (distOf net net.length S p) (n : Int)) → 0 ≤ w → w < 64 → (∀ k, bitOf w k ↔ (k < net.length ∧ Dist net net.length S k n)) → 0 ≤ seen → seen < 64 → (∀ k, bitOf seen k ↔ (k < net.length ∧ ∃ e, e < n ∧ Dist net net.length S k e)) →
    Ev (fun k => spec_l1Far.l1 k net x seen w (n : Int)) (mk net.length (distOf net net.length S)) := by
  intro d
  have h6 := hn.2.1
  have hfin : ∀ (n : Nat) (w : Int) (x : List Int), x.length = net.length → (∀ p, p < net.length → G x p = soFar (distOf net net.length S p) (n : Int)) → (∀ k, bitOf w k ↔ (k < net.length ∧ Dist net net.length S k n)) → w = 0 → x = mk net.length (distOf net net.length S) := by
    intro n w x hx hp hw ew
    refine mk_eq_iff.2 ⟨hx, fun p hpl => ?_⟩
    rw [hp p hpl]
    refine soFar_end hpl (fun e he => ?_)
    apply Classical.byContradiction
    intro hge
    obtain ⟨j, hj, hd⟩ := dist_way hpl he n (by omega)
    have := (hw j).2 ⟨hj, hd⟩
    rw [ew] at this
    unfold bitOf at this
    simp at this
  induction d with
  | zero =>
    intro n w seen x hd hn1 hx hp h0 h64 hw hs0 hs64 hs
    have ew : w = 0 := bit_zero h0 h64 (fun k hb => by
      obtain ⟨h1, h2⟩ := (hw k).1 hb
      have := dist_lt h1 h2
      omega)
    refine Ev.step (fun k => spec_l1Far.l1.eq_2 ..) ?_
    have := hfin n w x hx hp hw ew
    simp only [ew, if_true]
    exact Ev.val this
  | succ d ih =>
    intro n w seen x hd hn1 hx hp h0 h64 hw hs0 hs64 hs
    refine Ev.step (fun k => spec_l1Far.l1.eq_2 ..) ?_
    by_cases ew : w = 0
    · have := hfin n w x hx hp hw ew
      simp only [ew, if_true]
      exact Ev.val this
    · simp only [ew, if_false]
      obtain ⟨t, ht, ht0, ht64, htb⟩ := spec_l1Near_ev net hn w h0
      obtain ⟨s2, hs2, hs20, hs264, hs2b⟩ := or_two hs0 hs64 h0 h64
      obtain ⟨w2, hw2, hw20, hw264, hw2b⟩ := andNot_two ht0 ht64 hs20 hs264
      have hseen : ∀ k, bitOf s2 k ↔ (k < net.length ∧ ∃ e, e < n + 1 ∧ Dist net net.length S k e) := fun k => by
        have g1 := hs2b k
        have g2 := hs k
        have g3 := hw k
        constructor
        · intro g
          rcases g1.1 g with g | g
          · obtain ⟨a, e, b, c⟩ := g2.1 g; exact ⟨a, e, by omega, c⟩
          · obtain ⟨a, b⟩ := g3.1 g; exact ⟨a, n, by omega, b⟩
        · rintro ⟨a, e, b, c⟩
          by_cases en : e = n
          · subst en; exact g1.2 (Or.inr (g3.2 ⟨a, c⟩))
          · exact g1.2 (Or.inl (g2.2 ⟨a, e, by omega, c⟩))
      refine spec_l1Far_l2 net hn S w seen n (by omega) h0 (fun k hk => ⟨fun g => ((hw k).1 g).2, fun g => (hw k).2 ⟨hk, g⟩⟩) _ (fun y hy hq => ?_) _ 0 x rfl (by omega) hx (fun p hpl => by rw [hp p hpl, if_neg (by omega)])
      refine Ev.bind ht ?_
      simp only [hs2, hw2]
      refine ih (n + 1) w2 s2 y (by omega) (by omega) hy hq hw20 hw264 (fun k => ?_) hs20 hs264 hseen
      have g1 := hw2b k
      have g2 := htb k
      constructor
      · intro g
        obtain ⟨a, b⟩ := g1.1 g
        obtain ⟨j, hj, c, e⟩ := g2.1 a
        have hjd := ((hw j).1 c).2
        have hkl := adj_lt hn hj e
        refine ⟨hkl, ?_⟩
        obtain ⟨m, hm, hdm⟩ := dist_next hj hjd e
        by_cases em : m = n + 1
        · rw [← em]; exact hdm
        · exact absurd ((hseen k).2 ⟨hkl, m, by omega, hdm⟩) b
      · rintro ⟨hkl, hdk⟩
        obtain ⟨j, hj, c, e⟩ := dist_pred hdk
        refine g1.2 ⟨g2.2 ⟨j, hj, (hw j).2 ⟨hj, c⟩, e⟩, fun b => ?_⟩
        obtain ⟨_, m, hm, hdm⟩ := (hseen k).1 b
        have := dist_unique hdk hdm
        omega
theorem spec_l1Far_l0 (net : List Int) (set : Int) (h : SetP net set) : ∀ (d i : Nat), net.length - i = d → i ≤ net.length →
    Ev (fun k => spec_l1Far.l0 k net set (mk i (fun _ => -1)) (i : Int)) (distRow net set) := by
  intro d
  have h6 := h.1.2.1
  have hb := set_lt64 h
  induction d with
  | zero =>
    intro i hd hi
    have ei : i = net.length := by omega
    subst ei
    refine Ev.step (fun k => spec_l1Far.l0.eq_2 ..) ?_
    have hx := spec_l1Far_l1 net h.1 (bitOf set) _ 0 set 0 (mk net.length (fun _ => -1)) rfl (by omega) (mk_length _ _) (fun p hpl => by rw [G_mk _ hpl]; unfold soFar; rw [if_neg (by omega)]) hb.1 hb.2
      (fun k => ⟨fun g => ⟨bit_lt h.2.1 h.2.2 g, dist_zero.2 g⟩, fun g => dist_zero.1 g.2⟩) (by omega) (by omega) (fun k => ⟨fun g => by unfold bitOf at g; simp at g, fun ⟨_, e, he, _⟩ => by omega⟩)
    simp (disch := omega) only [if_pos, if_neg, w64, rdn, rd0, tn, sc, Option.bind_some, ↓reduceIte, Bool.false_eq_true, Bool.true_eq_false]
    exact hx
  | succ d ih =>
    intro i hd hi
    refine Ev.step (fun k => spec_l1Far.l0.eq_2 ..) ?_
    have hn := ih (i + 1) (by omega) (by omega)
    rw [mk_succ] at hn
    have hL : (mk i (fun _ => (-1 : Int))).length = i := mk_length _ _
    simp (disch := omega) only [if_pos, if_neg, w64, rdn, rd0, tn, sc, Option.bind_some, ↓reduceIte, Bool.false_eq_true, Bool.true_eq_false]
    exact hn
theorem spec_l1Far_ev (net : List Int) (set : Int) (h : SetP net set) : Ev (fun k => spec_l1Far.f k net set) (distRow net set) := by
  unfold spec_l1Far.f
  exact spec_l1Far_l0 net set h _ 0 rfl (by omega)

-- needs Parts
theorem spec_PartsOf_l1 (net : List Int) (h : NetP net) (i : Nat) (hi : i < net.length) (x : List Int) (hx : x.length = i) (r : List Int)
    (hend : Ev (fun k => spec_PartsOf.l0 k net (x ++ [((pLeast net net.length i : Nat) : Int)]) ((i + 1 : Nat) : Int)) r) : ∀ (d : Nat) (least : Nat) (x7 : Int), d ≤ i + 1 → x7 = (d : Int) - 1 → WayTo net net.length i least → (∀ j, d ≤ j → j ≤ i → WayTo net net.length i j → least ≤ j) → (least ≤ i) →
    Ev (fun k => spec_PartsOf.l1 k net x (i : Int) (distRow net ((2 : Int) ^ i)) (least : Int) x7) r := by
  intro d
  have h6 := h.2.1
  have hs := pLeast_spec net net.length i
  have hsym := net_symm h (n := net.length) rfl
  have hL := distRow_length net ((2 : Int) ^ i)
  induction d with
  | zero =>
    intro least x7 hd hx7 hw hm hle
    have e : least = pLeast net net.length i := by
      apply Nat.le_antisymm
      · exact hm _ (Nat.zero_le _) hs.2.2 hs.1
      · exact hs.2.1 _ ((hs.1.symm hsym).trans hw)
    rw [← e] at hend
    refine Ev.step (fun k => spec_PartsOf.l1.eq_2 ..) ?_
    clear hm
    simp (disch := omega) only [if_pos, if_neg, w64, rdn, rd0, tn, sc, Option.bind_some, ↓reduceIte, Bool.false_eq_true, Bool.true_eq_false]
    exact hend
  | succ d ih =>
    intro least x7 hd hx7 hw hm hle
    obtain rfl : x7 = (d : Int) := by omega
    have hdl : d < net.length := by omega
    refine Ev.step (fun k => spec_PartsOf.l1.eq_2 ..) ?_
    have hw7 : wrap64 ((d : Int) - 1) = (d : Int) - 1 := w64 (by omega) (by omega)
    have hdo := dist_one h hi hdl
    simp only [rdn, hw7]
    clear hw7
    by_cases e : G (distRow net ((2 : Int) ^ i)) d ≥ 0
    · have hn := ih d ((d : Int) - 1) (by omega) rfl (hdo.1 e) (fun j hj hji hjw => by omega) (by omega)
      clear hm hdo
      simp (disch := omega) only [if_pos, if_neg, w64, rdn, rd0, tn, sc, Option.bind_some, ↓reduceIte, Bool.false_eq_true, Bool.true_eq_false]
      exact hn
    · have hn := ih least ((d : Int) - 1) (by omega) rfl hw (fun j hj hji hjw => by
        by_cases ej : j = d
        · subst ej; exact absurd (hdo.2 hjw) e
        · exact hm j (by omega) hji hjw) hle
      clear hm hdo
      simp (disch := omega) only [if_pos, if_neg, w64, rdn, rd0, tn, sc, Option.bind_some, ↓reduceIte, Bool.false_eq_true, Bool.true_eq_false]
      exact hn
theorem spec_PartsOf_l0 (net : List Int) (h : NetP net) : ∀ (d i : Nat), net.length - i = d → i ≤ net.length →
    Ev (fun k => spec_PartsOf.l0 k net (mk i (fun i => ((pLeast net net.length i : Nat) : Int))) (i : Int)) (partsRow net) := by
  intro d
  have h6 := h.2.1
  induction d with
  | zero =>
    intro i hd hi
    have ei : i = net.length := by omega
    subst ei
    refine Ev.step (fun k => spec_PartsOf.l0.eq_2 ..) ?_
    simp only [show ¬ (net.length : Int) < (net.length : Int) by omega, if_false]
    refine Ev.step (fun k => spec_PartsOf.j1.eq_2 ..) ?_
    simp only [Bool.false_eq_true, if_false]
    exact Ev.now _
  | succ d ih =>
    intro i hd hi
    have hil : i < net.length := by omega
    have hn := ih (i + 1) (by omega) (by omega)
    rw [mk_succ] at hn
    refine Ev.step (fun k => spec_PartsOf.l0.eq_2 ..) ?_
    simp only [show (i : Int) < (net.length : Int) by omega, if_true]
    refine Ev.bind (spec_NetOk_ev net (by omega)) ?_
    simp only [h, decide_true]
    refine Ev.step (fun k => spec_PartsOf.j1.eq_2 ..) ?_
    have hsh : shl .i64 1 (i : Int) = 2 ^ i := shl1 (by omega)
    simp only [hsh, if_true, show 0 ≤ (i : Int) by omega]
    refine Ev.bind (spec_l1Far_ev net _ (one_set h hil)) ?_
    exact spec_PartsOf_l1 net h i hil _ (mk_length _ _) _ hn (i + 1) i (i : Int) (Nat.le_refl _) (by omega) (WayTo.refl _ _ _) (fun j hj hji _ => by omega) (Nat.le_refl _)
theorem spec_PartsOf_ev (net : List Int) (hl : net.length ≤ 1048576) : Ev (fun k => spec_PartsOf.f k net) (partsOf net) := by
  unfold spec_PartsOf.f
  by_cases h : NetP net
  · rw [partsOf_yes h]
    exact spec_PartsOf_l0 net h _ 0 rfl (by omega)
  · rw [partsOf_no h]
    refine Ev.step (fun k => spec_PartsOf.l0.eq_2 ..) ?_
    by_cases e : (0 : Int) < (net.length : Int)
    · simp only [e, if_true]
      refine Ev.bind (spec_NetOk_ev net hl) ?_
      simp only [h, decide_false]
      refine Ev.step (fun k => spec_PartsOf.j1.eq_2 ..) ?_
      simp only [Bool.false_eq_true, if_false]
      exact Ev.now _
    · simp only [e, if_false]
      refine Ev.step (fun k => spec_PartsOf.j1.eq_2 ..) ?_
      simp only [Bool.false_eq_true, if_false]
      exact Ev.now _

-- needs Parts
theorem spec_PeakRow_l1 (net x : List Int) (h : NetP net) (hx : x.length = net.length) (i : Nat) (hi : i < net.length) (y : List Int) (hy : y.length = i) (r : List Int)
    (hend : Ev (fun k => spec_PeakRow.l0 k net (y ++ [peakAt net (G x) i]) x true (partsRow net) ((i + 1 : Nat) : Int)) r) : ∀ (d j : Nat), net.length - j = d → j ≤ net.length →
    Ev (fun k => spec_PeakRow.l1 k net y x true (partsRow net) (i : Int) (maxP (fun k => pLeast net net.length k = pLeast net net.length i) (G x) (G x i) j) (j : Int)) r := by
  intro d
  have h6 := h.2.1
  have hL := partsRow_length net
  induction d with
  | zero =>
    intro j hd hj
    have ej : j = net.length := by omega
    subst ej
    refine Ev.step (fun k => spec_PeakRow.l1.eq_2 ..) ?_
    have e : maxP (fun k => pLeast net net.length k = pLeast net net.length i) (G x) (G x i) net.length = peakAt net (G x) i := rfl
    rw [e]
    simp (disch := omega) only [if_pos, if_neg, w64, rdn, rd0, tn, sc, Option.bind_some, ↓reduceIte, Bool.false_eq_true, Bool.true_eq_false]
    exact hend
  | succ d ih =>
    intro j hd hj
    have hjl : j < net.length := by omega
    have hn := ih (j + 1) (by omega) (by omega)
    have hp := parts_eq (net := net) hi hjl
    refine Ev.step (fun k => spec_PeakRow.l1.eq_2 ..) ?_
    have hmx : ∀ a b : Int, mx a b = mxi a b := fun _ _ => rfl
    simp only [rdn, hmx]
    clear hmx
    by_cases e : pLeast net net.length j = pLeast net net.length i
    · have e2 := hp.2 e
      have e3 : maxP (fun k => pLeast net net.length k = pLeast net net.length i) (G x) (G x i) (j + 1) = mxi (maxP (fun k => pLeast net net.length k = pLeast net net.length i) (G x) (G x i) j) (G x j) := by simp only [maxP]; rw [if_pos e]
      rw [e3] at hn
      clear hp e3
      simp (disch := omega) only [if_pos, if_neg, w64, rdn, rd0, tn, sc, Option.bind_some, ↓reduceIte, Bool.false_eq_true, Bool.true_eq_false]
      exact hn
    · have e2 : ¬ G (partsRow net) j = G (partsRow net) i := fun g => e (hp.1 g)
      have e3 : maxP (fun k => pLeast net net.length k = pLeast net net.length i) (G x) (G x i) (j + 1) = maxP (fun k => pLeast net net.length k = pLeast net net.length i) (G x) (G x i) j := by simp only [maxP]; rw [if_neg e]
      rw [e3] at hn
      clear hp e3
      simp (disch := omega) only [if_pos, if_neg, w64, rdn, rd0, tn, sc, Option.bind_some, ↓reduceIte, Bool.false_eq_true, Bool.true_eq_false]
      exact hn
theorem spec_PeakRow_l0 (net x : List Int) (h : NetP net) (hx : x.length = net.length) : ∀ (d i : Nat), net.length - i = d → i ≤ net.length →
    Ev (fun k => spec_PeakRow.l0 k net (mk i (peakAt net (G x))) x true (partsRow net) (i : Int)) (mk net.length (peakAt net (G x))) := by
  intro d
  have h6 := h.2.1
  induction d with
  | zero =>
    intro i hd hi
    have ei : i = net.length := by omega
    subst ei
    refine Ev.step (fun k => spec_PeakRow.l0.eq_2 ..) ?_
    simp only [show ¬ (net.length : Int) < (net.length : Int) by omega, if_false]
    refine Ev.step (fun k => spec_PeakRow.j1.eq_2 ..) ?_
    simp only [Bool.false_eq_true, if_false]
    exact Ev.now _
  | succ d ih =>
    intro i hd hi
    have hn := ih (i + 1) (by omega) (by omega)
    rw [mk_succ] at hn
    refine Ev.step (fun k => spec_PeakRow.l0.eq_2 ..) ?_
    simp only [show (i : Int) < (net.length : Int) by omega, if_true]
    refine Ev.step (fun k => spec_PeakRow.j1.eq_2 ..) ?_
    have := spec_PeakRow_l1 net x h hx i (by omega) _ (mk_length _ _) _ hn _ 0 rfl (by omega)
    simp only [rdn, if_true]
    simp (disch := omega) only [if_pos, if_neg, w64, rdn, rd0, tn, sc, Option.bind_some, ↓reduceIte, Bool.false_eq_true, Bool.true_eq_false]
    exact this
theorem spec_PeakRow_ev (net s : List Int) (hn : net.length ≤ 1048576) (hs : s.length ≤ 1048576) : Ev (fun k => spec_PeakRow.f k net s) (peakRow net s) := by
  unfold spec_PeakRow.f
  refine Ev.bind (spec_HeightRow_ev net s hn hs) ?_
  refine Ev.bind (spec_PartsOf_ev net hn) ?_
  by_cases h : Asked net 3 s ∧ Flat net s
  · have e := (heightRow_flat net s).2 h
    obtain ⟨x, hx, _, hr⟩ := heightRow_spec h.1 h.2
    have hp : peakRow net s = mk net.length (peakAt net (G x)) := by unfold peakRow; rw [hr]; rfl
    rw [hp, hr, partsOf_yes h.1.1]
    exact spec_PeakRow_l0 net x h.1.1 (by rw [hx]; exact h.1.2.2.symm) _ 0 rfl (by omega)
  · have hp : peakRow net s = [] := by unfold peakRow; rw [heightRow_no h]; rfl
    rw [hp, heightRow_no h]
    refine Ev.step (fun k => spec_PeakRow.l0.eq_2 ..) ?_
    have hj : ∀ y : List Int, Ev (fun k => spec_PeakRow.j1 k net [] [] false y 0 false) [] := fun y => by
      refine Ev.step (fun k => spec_PeakRow.j1.eq_2 ..) ?_
      simp only [Bool.false_eq_true, if_false]
      exact Ev.now _
    by_cases e : (0 : Int) < (net.length : Int)
    · simp only [e, if_true]
      exact hj _
    · simp only [e, if_false]
      exact hj _

theorem impl_NetOk_l1 (l : List Int) (h6 : l.length ≤ 6) (i : Nat) (hi : i < l.length) (r : Bool)
    (hbad : ∀ k, k < l.length → ¬ (adj l i k ↔ adj l k i) → r = false)
    (hgood : (∀ k, k < l.length → (adj l i k ↔ adj l k i)) → Ev (fun k => impl_NetOk.l0 k l l (l.length : Int) ((i + 1 : Nat) : Int)) r) :
    ∀ (d : Nat) (j : Nat), l.length - j = d → j ≤ l.length → (∀ k, k < j → (adj l i k ↔ adj l k i)) →
      Ev (fun k => impl_NetOk.l1 k l (i : Int) (G l i) l (l.length : Int) (i : Int) (l.length : Int) (j : Int)) r := by
  intro d
  induction d with
  | zero =>
    intro j hd hj hk
    refine Ev.step (fun k => impl_NetOk.l1.eq_2 ..) ?_
    simp (disch := omega) only [if_pos, if_neg, w64, rdn, rd0, tn, sc, Option.bind_some, ↓reduceIte, Bool.false_eq_true, Bool.true_eq_false]
    exact hgood (fun k hkl => hk k (by omega))
  | succ d ih =>
    intro j hd hj hk
    refine Ev.step (fun k => impl_NetOk.l1.eq_2 ..) ?_
    have b1 := bit_and (G l i) (j := j) (by omega)
    have b2 := bit_and (G l j) (j := i) (by omega)
    have m1 := Int.emod_two_eq (G l i / 2 ^ j)
    have m2 := Int.emod_two_eq (G l j / 2 ^ i)
    by_cases e : adj l i j ↔ adj l j i
    · have e' : G l i / 2 ^ j % 2 = G l j / 2 ^ i % 2 := by
        unfold adj at e
        by_cases c : G l i / 2 ^ j % 2 = 1
        · rw [c, e.1 c]
        · have c2 := fun h => c (e.2 h)
          omega
      simp only [rdn, b1, b2]
      simp (disch := omega) only [if_pos, if_neg, w64, rdn, rd0, tn, sc, Option.bind_some, ↓reduceIte, Bool.false_eq_true, Bool.true_eq_false]
      refine ih _ (by omega) (by omega) ?_
      intro k hkj
      by_cases e' : k = j
      · subst e'; exact e
      · exact hk k (by omega)
    · have e' : ¬ G l i / 2 ^ j % 2 = G l j / 2 ^ i % 2 := by
        intro h
        apply e
        unfold adj
        rw [h]
      simp only [rdn, b1, b2]
      simp (disch := omega) only [if_pos, if_neg, w64, rdn, rd0, tn, sc, Option.bind_some, ↓reduceIte, Bool.false_eq_true, Bool.true_eq_false]
      exact Ev.val (hbad j (by omega) e).symm
theorem impl_NetOk_l0 (l : List Int) (h1 : 1 ≤ l.length) (h6 : l.length ≤ 6) : ∀ (d : Nat) (i : Nat), l.length - i = d → i ≤ l.length →
    (∀ j, j < i → (0 ≤ G l j ∧ G l j < 2 ^ l.length ∧ ¬ adj l j j ∧ ∀ k, k < l.length → (adj l j k ↔ adj l k j))) → Ev (fun k => impl_NetOk.l0 k l l (l.length : Int) (i : Int)) (decide (NetP l)) := by
  intro d
  induction d with
  | zero =>
    intro i hd hi hj
    refine Ev.step (fun k => impl_NetOk.l0.eq_2 ..) ?_
    simp (disch := omega) only [if_pos, if_neg, w64, rdn, rd0, tn, sc, Option.bind_some, ↓reduceIte, Bool.false_eq_true, Bool.true_eq_false]
    have : NetP l := ⟨h1, h6, fun j h => hj j (by omega)⟩
    exact Ev.val (by simp [this])
  | succ d ih =>
    intro i hd hi hj
    refine Ev.step (fun k => impl_NetOk.l0.eq_2 ..) ?_
    have hs := shl1 (n := l.length) (by omega)
    have hb := bit_and (G l i) (j := i) (by omega)
    simp only [rdn, hs, hb]
    have bad : ¬ (0 ≤ G l i ∧ G l i < 2 ^ l.length ∧ ¬ adj l i i) → decide (NetP l) = false := by
      intro h
      have : ¬ NetP l := fun p => h ⟨(p.2.2 i (by omega)).1, (p.2.2 i (by omega)).2.1, (p.2.2 i (by omega)).2.2.1⟩
      simp [this]
    by_cases e0 : G l i < 0
    · simp (disch := omega) only [if_pos, if_neg, w64, rdn, rd0, tn, sc, Option.bind_some, ↓reduceIte, Bool.false_eq_true, Bool.true_eq_false]
      refine Ev.step (fun k => impl_NetOk.j2.eq_2 ..) ?_
      simp (disch := omega) only [if_pos, if_neg, w64, rdn, rd0, tn, sc, Option.bind_some, ↓reduceIte, Bool.false_eq_true, Bool.true_eq_false]
      exact Ev.val (bad (by omega)).symm
    · by_cases e1 : G l i ≥ 2 ^ l.length
      · simp (disch := omega) only [if_pos, if_neg, w64, rdn, rd0, tn, sc, Option.bind_some, ↓reduceIte, Bool.false_eq_true, Bool.true_eq_false]
        refine Ev.step (fun k => impl_NetOk.j2.eq_2 ..) ?_
        simp (disch := omega) only [if_pos, if_neg, w64, rdn, rd0, tn, sc, Option.bind_some, ↓reduceIte, Bool.false_eq_true, Bool.true_eq_false]
        exact Ev.val (bad (by omega)).symm
      · simp (disch := omega) only [if_pos, if_neg, w64, rdn, rd0, tn, sc, Option.bind_some, ↓reduceIte, Bool.false_eq_true, Bool.true_eq_false]
        refine Ev.step (fun k => impl_NetOk.j2.eq_2 ..) ?_
        by_cases e2 : G l i / 2 ^ i % 2 = 1
        · have e3 : (G l i / 2 ^ i % 2 == 1) = true := by simp [e2]
          simp only [e3]
          simp (disch := omega) only [if_pos, if_neg, w64, rdn, rd0, tn, sc, Option.bind_some, ↓reduceIte, Bool.false_eq_true, Bool.true_eq_false]
          exact Ev.val (bad (fun h => h.2.2 e2)).symm
        · have e3 : (G l i / 2 ^ i % 2 == 1) = false := by simp [e2]
          simp only [e3]
          simp (disch := omega) only [if_pos, if_neg, w64, rdn, rd0, tn, sc, Option.bind_some, ↓reduceIte, Bool.false_eq_true, Bool.true_eq_false]
          refine impl_NetOk_l1 l h6 i (by omega) _ ?_ ?_ _ 0 rfl (by omega) (fun k h => by omega)
          · intro k hk hn
            have : ¬ NetP l := fun p => hn ((p.2.2 i (by omega)).2.2.2 k hk)
            simp [this]
          · intro hall
            refine ih _ (by omega) (by omega) ?_
            intro j hji
            by_cases e' : j = i
            · subst e'; exact ⟨by omega, by omega, e2, hall⟩
            · exact hj j (by omega)
theorem impl_NetOk_ev (l : List Int) (hl : l.length ≤ 1048576) : Ev (fun k => impl_NetOk.f k l) (decide (NetP l)) := by
  unfold impl_NetOk.f
  by_cases h1 : l.length < 1
  · simp (disch := omega) only [if_pos, if_neg, w64, rdn, rd0, tn, sc, Option.bind_some, ↓reduceIte, Bool.false_eq_true, Bool.true_eq_false]
    refine Ev.step (fun k => impl_NetOk.j0.eq_2 ..) ?_
    simp (disch := omega) only [if_pos, if_neg, w64, rdn, rd0, tn, sc, Option.bind_some, ↓reduceIte, Bool.false_eq_true, Bool.true_eq_false]
    have : ¬ NetP l := fun p => by have := p.1; omega
    exact Ev.val (by simp [this])
  · simp (disch := omega) only [if_pos, if_neg, w64, rdn, rd0, tn, sc, Option.bind_some, ↓reduceIte, Bool.false_eq_true, Bool.true_eq_false]
    refine Ev.step (fun k => impl_NetOk.j0.eq_2 ..) ?_
    by_cases h6 : l.length > 6
    · have : decide ((l.length : Int) > 6) = true := by simp; omega
      simp only [this]
      simp (disch := omega) only [if_pos, if_neg, w64, rdn, rd0, tn, sc, Option.bind_some, ↓reduceIte, Bool.false_eq_true, Bool.true_eq_false]
      have : ¬ NetP l := fun p => by have := p.2.1; omega
      exact Ev.val (by simp [this])
    · have : decide ((l.length : Int) > 6) = false := by simp; omega
      simp only [this]
      simp (disch := omega) only [if_pos, if_neg, w64, rdn, rd0, tn, sc, Option.bind_some, ↓reduceIte, Bool.false_eq_true, Bool.true_eq_false]
      exact impl_NetOk_l0 l (by omega) (by omega) _ 0 rfl (by omega) (fun j h => by omega)

theorem impl_StateOk_l0 (a : Int) (l : List Int) (hl : l.length ≤ 1048576) : ∀ (d : Nat) (i : Nat), l.length - i = d → i ≤ l.length → (∀ j, j < i → 0 ≤ G l j ∧ G l j < a) → Ev (fun k => impl_StateOk.l0 k a l l (l.length : Int) (i : Int)) (decide (StateP a l)) := by
  intro d
  induction d with
  | zero =>
    intro i hd hi hj
    refine Ev.step (fun k => impl_StateOk.l0.eq_2 ..) ?_
    obtain rfl : i = l.length := by omega
    by_cases h3 : 3 ≤ a
    · by_cases h5 : a ≤ 5
      · by_cases h1 : 1 ≤ l.length
        · simp (disch := omega) only [if_pos, if_neg, w64, rdn, rd0, tn, sc, Option.bind_some, ↓reduceIte, Bool.false_eq_true, Bool.true_eq_false]
          refine Ev.val ?_
          rw [decide_eq_decide]
          unfold StateP
          constructor
          · intro e; exact ⟨h3, h5, h1, by omega, hj⟩
          · intro e; have := e.2.2.2.1; omega
        · simp (disch := omega) only [if_pos, if_neg, w64, rdn, rd0, tn, sc, Option.bind_some, ↓reduceIte, Bool.false_eq_true, Bool.true_eq_false]
          refine Ev.val ?_
          have : ¬ StateP a l := fun p => h1 p.2.2.1
          simp [this]
      · simp (disch := omega) only [if_pos, if_neg, w64, rdn, rd0, tn, sc, Option.bind_some, ↓reduceIte, Bool.false_eq_true, Bool.true_eq_false]
        refine Ev.val ?_
        have : ¬ StateP a l := fun p => h5 p.2.1
        simp [this]
    · simp (disch := omega) only [if_pos, if_neg, w64, rdn, rd0, tn, sc, Option.bind_some, ↓reduceIte, Bool.false_eq_true, Bool.true_eq_false]
      refine Ev.val ?_
      have : ¬ StateP a l := fun p => h3 p.1
      simp [this]
  | succ d ih =>
    intro i hd hi hj
    refine Ev.step (fun k => impl_StateOk.l0.eq_2 ..) ?_
    by_cases e0 : G l i < 0
    · simp (disch := omega) only [if_pos, if_neg, w64, rdn, rd0, tn, sc, Option.bind_some, ↓reduceIte, Bool.false_eq_true, Bool.true_eq_false]
      refine Ev.val ?_
      have : ¬ StateP a l := fun p => by have := p.2.2.2.2 i (by omega); omega
      simp [this]
    · by_cases e1 : G l i ≥ a
      · simp (disch := omega) only [if_pos, if_neg, w64, rdn, rd0, tn, sc, Option.bind_some, ↓reduceIte, Bool.false_eq_true, Bool.true_eq_false]
        refine Ev.val ?_
        have : ¬ StateP a l := fun p => by have := p.2.2.2.2 i (by omega); omega
        simp [this]
      · simp (disch := omega) only [if_pos, if_neg, w64, rdn, rd0, tn, sc, Option.bind_some, ↓reduceIte, Bool.false_eq_true, Bool.true_eq_false]
        refine ih (i + 1) (by omega) (by omega) ?_
        intro j hji
        by_cases e' : j = i
        · subst e'; omega
        · exact hj j (by omega)
theorem impl_StateOk_ev (a : Int) (l : List Int) (hl : l.length ≤ 1048576) : Ev (fun k => impl_StateOk.f k a l) (decide (StateP a l)) := by
  unfold impl_StateOk.f
  exact impl_StateOk_l0 a l hl _ 0 rfl (by omega) (fun j h => by omega)

theorem impl_asked_ev (net s : List Int) (kinds : Int) (hn : net.length ≤ 1048576) (hs : s.length ≤ 1048576) : Ev (fun k => impl_asked.f k net kinds s) (decide (Asked net kinds s)) := by
  unfold impl_asked.f
  refine Ev.bind (impl_NetOk_ev net hn) ?_
  by_cases h1 : NetP net
  · simp only [h1, decide_true]
    simp (disch := omega) only [if_pos, if_neg, w64, rdn, rd0, tn, sc, Option.bind_some, ↓reduceIte, Bool.false_eq_true, Bool.true_eq_false]
    refine Ev.bind (impl_StateOk_ev kinds s hs) ?_
    by_cases h2 : StateP kinds s
    · simp only [h2, decide_true]
      simp (disch := omega) only [if_pos, if_neg, w64, rdn, rd0, tn, sc, Option.bind_some, ↓reduceIte, Bool.false_eq_true, Bool.true_eq_false]
      refine Ev.val ?_
      rw [Bool.eq_iff_iff, beq_iff_eq, decide_eq_true_eq]
      unfold Asked
      constructor
      · intro h; exact ⟨h1, h2, by omega⟩
      · intro h; have := h.2.2; omega
    · simp only [h2, decide_false]
      simp (disch := omega) only [if_pos, if_neg, w64, rdn, rd0, tn, sc, Option.bind_some, ↓reduceIte, Bool.false_eq_true, Bool.true_eq_false]
      have : ¬ Asked net kinds s := fun h => h2 h.2.1
      exact Ev.val (by simp [this])
  · simp only [h1, decide_false]
    simp (disch := omega) only [if_pos, if_neg, w64, rdn, rd0, tn, sc, Option.bind_some, ↓reduceIte, Bool.false_eq_true, Bool.true_eq_false]
    have : ¬ Asked net kinds s := fun h => h1 h.1
    exact Ev.val (by simp [this])

theorem impl_rise_eq (l : List Int) (hl : ∀ i, i < l.length → 0 ≤ G l i ∧ G l i < 3) {i j : Nat} (hi : i < l.length) (hj : j < l.length) : impl_rise.f l (i : Int) (j : Int) = some (rise (G l i) (G l j)) := by
  have ha := hl i hi
  have hb := hl j hj
  unfold impl_rise.f
  have h1 : wrap64 (G l j - G l i) = G l j - G l i := w64 (by omega) (by omega)
  have h2 : wrap64 (G l j - G l i + 3) = G l j - G l i + 3 := w64 (by omega) (by omega)
  have h3 : Int.tmod (G l j - G l i + 3) 3 = (G l j - G l i + 3) % 3 := tmod_nn (by omega)
  simp only [rdn, h1, h2, h3]
  unfold rise
  by_cases e1 : (G l j - G l i + 3) % 3 = 1
  · simp (disch := omega) only [if_pos, if_neg, w64, rdn, rd0, tn, sc, Option.bind_some, ↓reduceIte, Bool.false_eq_true, Bool.true_eq_false]
    congr 1; omega
  · by_cases e2 : (G l j - G l i + 3) % 3 = 2
    · simp (disch := omega) only [if_pos, if_neg, w64, rdn, rd0, tn, sc, Option.bind_some, ↓reduceIte, Bool.false_eq_true, Bool.true_eq_false]
      congr 1; omega
    · simp (disch := omega) only [if_pos, if_neg, w64, rdn, rd0, tn, sc, Option.bind_some, ↓reduceIte, Bool.false_eq_true, Bool.true_eq_false]
      congr 1; omega

-- needs Heights
def B (t : List Bool) (i : Nat) : Bool := t.getD i false
theorem rdB (t : List Bool) (i : Nat) : rdOf false t (i : Int) = B t i := rfl
theorem B_set_self {t : List Bool} {i : Nat} (v : Bool) (h : i < t.length) : B (t.set i v) i = v := by simp [B, List.getD, h]
theorem B_set_ne {t : List Bool} {i j : Nat} (v : Bool) (h : j ≠ i) : B (t.set i v) j = B t j := by simp [B, List.getD, List.getElem?_set_ne (Ne.symm h)]
/-- How many of the first n are told. -/
def told (t : List Bool) (n : Nat) : Int := sumN (fun i => if B t i = true then 1 else 0) n
theorem told_bd (t : List Bool) (n : Nat) : 0 ≤ told t n ∧ told t n ≤ n := by
  induction n with
  | zero => simp [told, sumN]
  | succ n ih =>
    have e : told t (n + 1) = told t n + (if B t n = true then 1 else 0) := rfl
    rw [e]; split <;> omega
theorem told_set {t : List Bool} {j : Nat} (hj : j < t.length) (hb : B t j = false) : ∀ n, told (t.set j true) n = told t n + if j < n then 1 else 0
  | 0 => by simp [told, sumN]
  | n + 1 => by
    have e1 : told (t.set j true) (n + 1) = told (t.set j true) n + (if B (t.set j true) n = true then 1 else 0) := rfl
    have e2 : told t (n + 1) = told t n + (if B t n = true then 1 else 0) := rfl
    rw [e1, e2, told_set hj hb n]
    by_cases e : n = j
    · subst e; simp [B_set_self _ hj, hb]
    · rw [B_set_ne _ e]
      by_cases e3 : j < n
      · simp [e3, show j < n + 1 from by omega]; omega
      · simp [e3, show ¬ j < n + 1 from by omega]
/-- What holds while the part of f is laid out. -/
structure QInv (net s : List Int) (Old : Nat → Prop) (f : Nat) (x : List Int) (t : List Bool) (q : List Int) : Prop where
  lx : x.length = s.length
  lt : t.length = s.length
  lq : 1 ≤ q.length
  qt : (q.length : Int) ≤ told t s.length
  q0 : G q 0 = (f : Int)
  ent : ∀ k, k < q.length → ∃ a : Nat, G q k = (a : Int) ∧ a < s.length ∧ B t a = true ∧ ¬ Old a ∧ f ≤ a ∧ WayTo net s.length f a ∧ ∀ g, Heights net s g → G x a = g a - g f
  tel : ∀ a, a < s.length → B t a = true → Old a ∨ ∃ k, k < q.length ∧ G q k = (a : Int)
  old : ∀ a, a < s.length → Old a → B t a = true
  zer : ∀ a, a < s.length → B t a = false → G x a = 0
  upf : ∀ a, a < s.length → a ≤ f → B t a = true
  xf : G x f = 0
  bnd : ∀ a, a < s.length → - told t s.length ≤ G x a ∧ G x a ≤ told t s.length
  oed : ∀ a b, a < s.length → b < s.length → Old a → adj net a b → Old b ∧ G x b = G x a + rise (G s a) (G s b)
  onm : ∀ a, a < s.length → Old a → Least net s.length a → G x a = 0
/-- The first 'at' nodes of the list, and the first j neighbours of node i, are done. -/
def Proc (net s x : List Int) (t : List Bool) (q : List Int) (at' : Nat) : Prop :=
  ∀ k, k < at' → ∀ a b : Nat, G q k = (a : Int) → b < s.length → adj net a b → B t b = true ∧ G x b = G x a + rise (G s a) (G s b)
theorem push_keep {net s : List Int} {Old : Nat → Prop} {f : Nat} {x : List Int} {t : List Bool} {q : List Int} (h : QInv net s Old f x t q) (hf : f < s.length) {i j k0 : Nat} (hk : k0 < q.length) (hqk : G q k0 = (i : Int)) (hi : i < s.length) (hj : j < s.length) (ha : adj net i j) (hb : B t j = false) :
    QInv net s Old f (x.set j (G x i + rise (G s i) (G s j))) (t.set j true) (q ++ [(j : Int)]) := by
  have hT := told_set (t := t) (j := j) (by rw [h.lt]; exact hj) hb s.length
  rw [if_pos hj] at hT
  have hr := rise_le (G s i) (G s j)
  obtain ⟨i', hi1, hi2, hi3, hi4, hi5, hi6, hi7⟩ := h.ent k0 hk
  obtain rfl : i' = i := by omega
  have jf : f < j := by
    apply Nat.lt_of_not_le
    intro hle
    rw [h.upf j hj hle] at hb; cases hb
  have jno : ¬ Old j := fun ho => by rw [h.old j hj ho] at hb; cases hb
  have nej : ∀ a, B t a = true → a ≠ j := fun a hab e => by subst e; rw [hab] at hb; cases hb
  have xne : ∀ a, a ≠ j → G (x.set j (G x i' + rise (G s i') (G s j))) a = G x a := fun a e => G_set_ne _ e
  have xj : G (x.set j (G x i' + rise (G s i') (G s j))) j = G x i' + rise (G s i') (G s j) := G_set_self _ (by rw [h.lx]; exact hj)
  constructor
  · simp [h.lx]
  · simp [h.lt]
  · simp
  · rw [hT]; have := h.qt; simp; omega
  · rw [G_append_left (by have := h.lq; omega)]; exact h.q0
  · intro k hk'
    by_cases e : k < q.length
    · obtain ⟨a, a1, a2, a3, a4, a5, a6, a7⟩ := h.ent k e
      refine ⟨a, by rw [G_append_left e]; exact a1, a2, ?_, a4, a5, a6, fun g hg => ?_⟩
      · rw [B_set_ne _ (nej a a3)]; exact a3
      · rw [xne a (nej a a3)]; exact a7 g hg
    · have ek : k - q.length = 0 := by simp at hk'; omega
      refine ⟨j, ?_, hj, B_set_self _ (by rw [h.lt]; exact hj), jno, by omega, hi6.trans (WayTo.step hi hj ha), fun g hg => ?_⟩
      · rw [G_append_right (by omega), ek]; rfl
      · rw [xj, hi7 g hg, hg i' j hi hj ha]; omega
  · intro a hal hab
    by_cases e : a = j
    · subst e
      exact Or.inr ⟨q.length, by simp, by rw [G_append_right (Nat.le_refl _), Nat.sub_self]; rfl⟩
    · rw [B_set_ne _ e] at hab
      rcases h.tel a hal hab with ho | ⟨k, hk1, hk2⟩
      · exact Or.inl ho
      · exact Or.inr ⟨k, by simp; omega, by rw [G_append_left hk1]; exact hk2⟩
  · intro a hal ho
    have := h.old a hal ho
    rw [B_set_ne _ (nej a this)]; exact this
  · intro a hal hab
    by_cases e : a = j
    · subst e; rw [B_set_self _ (by rw [h.lt]; exact hj)] at hab; cases hab
    · rw [B_set_ne _ e] at hab; rw [xne a e]; exact h.zer a hal hab
  · intro a hal haf
    have := h.upf a hal haf
    rw [B_set_ne _ (nej a this)]; exact this
  · rw [xne f (by omega)]; exact h.xf
  · intro a hal
    rw [hT]
    have hb1 := h.bnd a hal
    have hb2 := h.bnd i' hi
    by_cases e : a = j
    · subst e; rw [xj]; omega
    · rw [xne a e]; omega
  · intro a b hal hbl ho hab
    obtain ⟨e1, e2⟩ := h.oed a b hal hbl ho hab
    refine ⟨e1, ?_⟩
    rw [xne a (nej a (h.old a hal ho)), xne b (nej b (h.old b hbl e1))]; exact e2
  · intro a hal ho hl
    rw [xne a (nej a (h.old a hal ho))]; exact h.onm a hal ho hl
theorem push_proc {net s : List Int} {Old : Nat → Prop} {f : Nat} {x : List Int} {t : List Bool} {q : List Int} (h : QInv net s Old f x t q) {at' j : Nat} {v w : Int} (hat : at' ≤ q.length) (hp : Proc net s x t q at') (hj : j < s.length) (hb : B t j = false) :
    Proc net s (x.set j v) (t.set j true) (q ++ [w]) at' := by
  intro k hk a b hqa hbl hab
  rw [G_append_left (by omega)] at hqa
  obtain ⟨e1, e2⟩ := hp k hk a b hqa hbl hab
  obtain ⟨a', a1, a2, a3, _⟩ := h.ent k (by omega)
  obtain rfl : a' = a := by omega
  have n1 : a' ≠ j := fun e => by subst e; rw [a3] at hb; cases hb
  have n2 : b ≠ j := fun e => by subst e; rw [e1] at hb; cases hb
  exact ⟨by rw [B_set_ne _ n2]; exact e1, by rw [G_set_ne _ n2, G_set_ne _ n1]; exact e2⟩
theorem impl_HeightRow_l2 (net s : List Int) (hA : Asked net 3 s) (Old : Nat → Prop) (f : Nat) (hf : f < s.length) (r : List Int × Bool) (hr : ¬ Flat net s → r = ([], false)) (at' i : Nat) (hi : i < s.length) (m : Int)
    (hnext : ∀ x t q, QInv net s Old f x t q → Proc net s x t q (at' + 1) → at' + 1 ≤ q.length → (s.length : Int) - told t s.length + q.length ≤ m →
      Ev (fun k => impl_HeightRow.l1 k net s x t q ((at' + 1 : Nat) : Int) (s.length : Int) (f : Int)) r) :
    ∀ (d j : Nat) (x : List Int) (t : List Bool) (q : List Int), j + d = s.length → QInv net s Old f x t q → Proc net s x t q at' → at' < q.length → G q at' = (i : Int) → (s.length : Int) - told t s.length + q.length ≤ m →
      (∀ b, b < j → adj net i b → B t b = true ∧ G x b = G x i + rise (G s i) (G s b)) →
      Ev (fun k => impl_HeightRow.l2 k net s x t q (at' : Int) (i : Int) (s.length : Int) (f : Int) (s.length : Int) (j : Int)) r := by
  intro d
  have h6 := asked6 hA
  have hl := hA.2.2
  induction d with
  | zero =>
    intro j x t q hd h hp hat hqi hm hpart
    refine Ev.step (fun k => impl_HeightRow.l2.eq_2 ..) ?_
    have hq := h.qt
    have ht := told_bd t s.length
    simp (disch := omega) only [if_pos, if_neg, w64, rdn, rd0, tn, sc, Option.bind_some, ↓reduceIte, Bool.false_eq_true, Bool.true_eq_false]
    refine hnext x t q h (fun k hk a b hqa hbl hab => ?_) (by omega) hm
    by_cases e : k = at'
    · subst e
      obtain rfl : i = a := by omega
      exact hpart b (by omega) hab
    · exact hp k (by omega) a b hqa hbl hab
  | succ d ih =>
    intro j x t q hd h hp hat hqi hm hpart
    refine Ev.step (fun k => impl_HeightRow.l2.eq_2 ..) ?_
    have hq := h.qt
    have ht := told_bd t s.length
    have hx := h.lx
    have htl := h.lt
    have hb := bit_and (G net i) (j := j) (by omega)
    have er := impl_rise_eq s hA.2.1.2.2.2.2 (show i < s.length by omega) (show j < s.length by omega)
    have hrb := rise_le (G s i) (G s j)
    have hbi := h.bnd i hi
    have hw : wrap64 (G x i + rise (G s i) (G s j)) = G x i + rise (G s i) (G s j) := w64 (by omega) (by omega)
    have m2 := Int.emod_two_eq (G net i / 2 ^ j)
    simp only [rdn, rdB, hb, er, Option.bind_some, hw]
    clear hb er hw
    by_cases e0 : G net i / 2 ^ j % 2 = 0
    · simp (disch := omega) only [if_pos, if_neg, w64, rdn, rd0, tn, sc, Option.bind_some, ↓reduceIte, Bool.false_eq_true, Bool.true_eq_false]
      refine ih (j + 1) x t q (by omega) h hp hat hqi hm (fun b hbj hab => ?_)
      by_cases e : b = j
      · subst e; exact absurd hab (by unfold adj; omega)
      · exact hpart b (by omega) hab
    · have ha : adj net i j := by unfold adj; omega
      rcases Bool.eq_false_or_eq_true (B t j) with hbj | hbj
      · simp only [hbj]
        by_cases e1 : G x j = G x i + rise (G s i) (G s j)
        · have e2 : (G x j != G x i + rise (G s i) (G s j)) = false := by simp [e1]
          simp only [e2]
          simp (disch := omega) only [if_pos, if_neg, w64, rdn, rd0, tn, sc, Option.bind_some, ↓reduceIte, Bool.false_eq_true, Bool.true_eq_false]
          refine Ev.step (fun k => impl_HeightRow.j3.eq_2 ..) ?_
          simp only [rdB, hbj]
          simp (disch := omega) only [if_pos, if_neg, w64, rdn, rd0, tn, sc, Option.bind_some, ↓reduceIte, Bool.false_eq_true, Bool.true_eq_false]
          refine ih (j + 1) x t q (by omega) h hp hat hqi hm (fun b hbj' hab => ?_)
          by_cases e : b = j
          · subst e; exact ⟨hbj, e1⟩
          · exact hpart b (by omega) hab
        · have e2 : (G x j != G x i + rise (G s i) (G s j)) = true := by simp [e1]
          have hno : ¬ Flat net s := by
            rintro ⟨g, hg⟩
            apply e1
            obtain ⟨a, a1, a2, a3, a4, a5, a6, a7⟩ := h.ent at' hat
            obtain rfl : a = i := by omega
            rcases h.tel j (by omega) hbj with ho | ⟨k, hk1, hk2⟩
            · exact absurd (h.oed j a (by omega) hi ho ((adj_sym hA.1 (by omega) (by omega)).1 ha)).1 a4
            · obtain ⟨b, b1, b2, b3, b4, b5, b6, b7⟩ := h.ent k hk1
              obtain rfl : b = j := by omega
              rw [a7 g hg, b7 g hg, hg a b hi (by omega) ha]; omega
          simp only [e2]
          simp (disch := omega) only [if_pos, if_neg, w64, rdn, rd0, tn, sc, Option.bind_some, ↓reduceIte, Bool.false_eq_true, Bool.true_eq_false]
          refine Ev.step (fun k => impl_HeightRow.j3.eq_2 ..) ?_
          simp (disch := omega) only [if_pos, if_neg, w64, rdn, rd0, tn, sc, Option.bind_some, ↓reduceIte, Bool.false_eq_true, Bool.true_eq_false]
          exact Ev.val (hr hno).symm
      · simp only [hbj]
        have hq2 := push_keep h hf hat hqi hi (show j < s.length by omega) ha hbj
        have hp2 := push_proc h (v := G x i + rise (G s i) (G s j)) (w := (j : Int)) (by omega) hp (show j < s.length by omega) hbj
        have hT := told_set (t := t) (j := j) (by omega) hbj s.length
        rw [if_pos (by omega)] at hT
        simp (disch := omega) only [if_pos, if_neg, w64, rdn, rd0, tn, sc, Option.bind_some, ↓reduceIte, Bool.false_eq_true, Bool.true_eq_false]
        refine Ev.step (fun k => impl_HeightRow.j3.eq_2 ..) ?_
        simp only [rdB, hbj]
        simp (disch := omega) only [if_pos, if_neg, w64, rdn, rd0, tn, sc, Option.bind_some, ↓reduceIte, Bool.false_eq_true, Bool.true_eq_false]
        refine ih (j + 1) _ _ _ (by omega) hq2 hp2 (by simp; omega) (by rw [G_append_left hat]; exact hqi) (by rw [hT]; simp; omega) (fun b hb2 hab => ?_)
        have nei : i ≠ j := fun e => by subst e; exact adj_irr hA.1 (by omega) ha
        rw [G_set_ne _ nei]
        by_cases e : b = j
        · subst e; exact ⟨B_set_self _ (by omega), G_set_self _ (by omega)⟩
        · obtain ⟨c1, c2⟩ := hpart b (by omega) hab
          exact ⟨by rw [B_set_ne _ e]; exact c1, by rw [G_set_ne _ e]; exact c2⟩
theorem impl_HeightRow_l1 (net s : List Int) (hA : Asked net 3 s) (Old : Nat → Prop) (f : Nat) (hf : f < s.length) (r : List Int × Bool) (hr : ¬ Flat net s → r = ([], false))
    (hnext : ∀ x t q, QInv net s Old f x t q → Proc net s x t q q.length → Ev (fun k => impl_HeightRow.l0 k net s x t (s.length : Int) ((f + 1 : Nat) : Int)) r) :
    ∀ (d at' : Nat) (x : List Int) (t : List Bool) (q : List Int), QInv net s Old f x t q → Proc net s x t q at' → at' ≤ q.length → (s.length : Int) - told t s.length + q.length ≤ (at' : Int) + d →
      Ev (fun k => impl_HeightRow.l1 k net s x t q (at' : Int) (s.length : Int) (f : Int)) r := by
  intro d
  have h6 := asked6 hA
  have hl := hA.2.2
  induction d with
  | zero =>
    intro at' x t q h hp hat hm
    refine Ev.step (fun k => impl_HeightRow.l1.eq_2 ..) ?_
    have ht := told_bd t s.length
    have hq := h.qt
    simp (disch := omega) only [if_pos, if_neg, w64, rdn, rd0, tn, sc, Option.bind_some, ↓reduceIte, Bool.false_eq_true, Bool.true_eq_false]
    refine hnext x t q h ?_
    rw [show q.length = at' from by omega]; exact hp
  | succ d ih =>
    intro at' x t q h hp hat hm
    refine Ev.step (fun k => impl_HeightRow.l1.eq_2 ..) ?_
    have ht := told_bd t s.length
    have hq := h.qt
    by_cases e : at' < q.length
    · obtain ⟨i, a1, a2, _⟩ := h.ent at' e
      simp only [rdn, a1, hl]
      simp (disch := omega) only [if_pos, if_neg, w64, rdn, rd0, tn, sc, Option.bind_some, ↓reduceIte, Bool.false_eq_true, Bool.true_eq_false]
      exact impl_HeightRow_l2 net s hA Old f hf r hr at' i a2 ((at' : Int) + (d + 1 : Nat)) (fun x t q h1 h2 h3 h4 => ih (at' + 1) x t q h1 h2 h3 (by omega)) s.length 0 x t q (by omega) h hp e a1 hm (fun b hb => by omega)
    · simp (disch := omega) only [if_pos, if_neg, w64, rdn, rd0, tn, sc, Option.bind_some, ↓reduceIte, Bool.false_eq_true, Bool.true_eq_false]
      refine hnext x t q h ?_
      rw [show q.length = at' from by omega]; exact hp
/-- What holds when the parts of the nodes ahead of f are laid out. -/
structure OInv (net s : List Int) (f : Nat) (x : List Int) (t : List Bool) : Prop where
  lx : x.length = s.length
  lt : t.length = s.length
  zer : ∀ a, a < s.length → B t a = false → G x a = 0
  upf : ∀ a, a < s.length → a < f → B t a = true
  bnd : ∀ a, a < s.length → - told t s.length ≤ G x a ∧ G x a ≤ told t s.length
  oed : ∀ a b, a < s.length → b < s.length → B t a = true → adj net a b → B t b = true ∧ G x b = G x a + rise (G s a) (G s b)
  onm : ∀ a, a < s.length → B t a = true → Least net s.length a → G x a = 0
theorem impl_HeightRow_l0 (net s : List Int) (hA : Asked net 3 s) : ∀ (d f : Nat) (x : List Int) (t : List Bool), f + d = s.length → OInv net s f x t →
    Ev (fun k => impl_HeightRow.l0 k net s x t (s.length : Int) (f : Int)) (heightRow net s) := by
  intro d
  have h6 := asked6 hA
  induction d with
  | zero =>
    intro f x t hd h
    refine Ev.step (fun k => impl_HeightRow.l0.eq_2 ..) ?_
    simp (disch := omega) only [if_pos, if_neg, w64, rdn, rd0, tn, sc, Option.bind_some, ↓reduceIte, Bool.false_eq_true, Bool.true_eq_false]
    refine Ev.val (heightRow_eq hA h.lx ⟨fun i j hi hj ha => (h.oed i j hi hj (h.upf i hi (by omega)) ha).2, fun i hi hl => h.onm i hi (h.upf i hi (by omega)) hl⟩).symm
  | succ d ih =>
    intro f x t hd h
    refine Ev.step (fun k => impl_HeightRow.l0.eq_2 ..) ?_
    have htl := h.lt
    have hxl := h.lx
    simp only [rdB]
    rcases Bool.eq_false_or_eq_true (B t f) with hb | hb
    · simp only [hb]
      simp (disch := omega) only [if_pos, if_neg, w64, rdn, rd0, tn, sc, Option.bind_some, ↓reduceIte, Bool.false_eq_true, Bool.true_eq_false]
      refine ih (f + 1) x t (by omega) ⟨h.lx, h.lt, h.zer, fun a ha haf => ?_, h.bnd, h.oed, h.onm⟩
      by_cases e : a = f
      · subst e; exact hb
      · exact h.upf a ha (by omega)
    · simp only [hb]
      have hT := told_set (t := t) (j := f) (by omega) hb s.length
      rw [if_pos (by omega)] at hT
      have ht := told_bd t s.length
      have hold : ∀ a, B t a = true → a ≠ f := fun a hab e => by subst e; rw [hab] at hb; cases hb
      have hQ : QInv net s (fun a => B t a = true) f x (t.set f true) [(f : Int)] := by
        constructor
        · exact h.lx
        · simp [h.lt]
        · simp
        · rw [hT]; simp; omega
        · rfl
        · intro k hk
          have k0 : k = 0 := by simp at hk; omega
          subst k0
          refine ⟨f, rfl, by omega, B_set_self _ (by omega), by rw [hb]; simp, Nat.le_refl _, WayTo.refl _ _ _, fun g _ => ?_⟩
          rw [h.zer f (by omega) hb]; omega
        · intro a ha hab
          by_cases e : a = f
          · subst e; exact Or.inr ⟨0, by simp, rfl⟩
          · rw [B_set_ne _ e] at hab; exact Or.inl hab
        · intro a ha ho; rw [B_set_ne _ (hold a ho)]; exact ho
        · intro a ha hab
          by_cases e : a = f
          · subst e; rw [B_set_self _ (by omega)] at hab; cases hab
          · rw [B_set_ne _ e] at hab; exact h.zer a ha hab
        · intro a ha haf
          by_cases e : a = f
          · subst e; exact B_set_self _ (by omega)
          · rw [B_set_ne _ e]; exact h.upf a ha (by omega)
        · exact h.zer f (by omega) hb
        · intro a ha; rw [hT]; have := h.bnd a ha; omega
        · exact h.oed
        · exact h.onm
      simp (disch := omega) only [if_pos, if_neg, w64, rdn, rd0, tn, sc, Option.bind_some, ↓reduceIte, Bool.false_eq_true, Bool.true_eq_false]
      refine impl_HeightRow_l1 net s hA _ f (by omega) _ (fun hn => heightRow_no (fun g => hn g.2)) ?_ (s.length + 1) 0 x (t.set f true) [(f : Int)] hQ (fun k hk => by omega) (by simp) (by rw [hT]; simp; omega)
      intro x' t' q' h' hp'
      refine ih (f + 1) x' t' (by omega) ⟨h'.lx, h'.lt, h'.zer, fun a ha haf => h'.upf a ha (by omega), h'.bnd, fun a b ha hb' hab hadj => ?_, fun a ha hab hl => ?_⟩
      · rcases h'.tel a ha hab with ho | ⟨k, hk1, hk2⟩
        · obtain ⟨c1, c2⟩ := h'.oed a b ha hb' ho hadj
          exact ⟨h'.old b hb' c1, c2⟩
        · exact hp' k hk1 a b hk2 hb' hadj
      · rcases h'.tel a ha hab with ho | ⟨k, hk1, hk2⟩
        · exact h'.onm a ha ho hl
        · obtain ⟨a', a1, a2, a3, a4, a5, a6, a7⟩ := h'.ent k hk1
          obtain rfl : a' = a := by omega
          have hle := hl f (a6.symm (net_symm hA.1 hA.2.2.symm))
          obtain rfl : a' = f := by omega
          exact h'.xf
theorem impl_HeightRow_ev (net s : List Int) (hn : net.length ≤ 1048576) (hs : s.length ≤ 1048576) : Ev (fun k => impl_HeightRow.f k net s) (heightRow net s) := by
  unfold impl_HeightRow.f
  refine Ev.bind (impl_asked_ev net s 3 hn hs) ?_
  by_cases h : Asked net 3 s
  · simp only [h, decide_true]
    have h6 := asked6 h
    have hl := h.2.2
    simp (disch := omega) only [if_pos, if_neg, w64, rdn, rd0, tn, sc, Option.bind_some, ↓reduceIte, Bool.false_eq_true, Bool.true_eq_false]
    rw [replicate_mk, hl]
    have hB : ∀ a, B (List.replicate s.length false) a = false := by
      intro a
      by_cases e : a < s.length
      · simp [B, List.getD, List.getElem?_replicate, e]
      · simp [B, List.getD, List.getElem?_replicate, e]
    refine impl_HeightRow_l0 net s h s.length 0 _ _ (by omega) ⟨mk_length _ _, by simp, fun a ha _ => G_mk _ ha, fun a ha h0 => by omega, fun a ha => ?_, fun a b ha hb hab => ?_, fun a ha hab => ?_⟩
    · rw [G_mk _ ha]; have := told_bd (List.replicate s.length false) s.length; omega
    · rw [hB a] at hab; cases hab
    · rw [hB a] at hab; cases hab
  · simp only [h, decide_false]
    rw [heightRow_no (fun g => h g.1)]
    simp (disch := omega) only [if_pos, if_neg, w64, rdn, rd0, tn, sc, Option.bind_some, ↓reduceIte, Bool.false_eq_true, Bool.true_eq_false]
    exact Ev.now _

-- needs Fire
theorem shl_len {net : List Int} (h : net.length ≤ 6) : shl .i64 1 (net.length : Int) = 2 ^ net.length := shl1 (by omega)
theorem impl_setOk_ev (net : List Int) (set : Int) (hn : net.length ≤ 1048576) : Ev (fun k => impl_setOk.f k net set) (decide (SetP net set)) := by
  unfold impl_setOk.f
  refine Ev.bind (impl_NetOk_ev net hn) ?_
  by_cases h1 : NetP net
  · simp only [h1, decide_true, shl_len h1.2.1]
    by_cases h2 : set ≥ 0
    · simp (disch := omega) only [if_pos, if_neg, w64, rdn, rd0, tn, sc, Option.bind_some, ↓reduceIte, Bool.false_eq_true, Bool.true_eq_false]
      refine Ev.val ?_
      rw [decide_eq_decide]
      unfold SetP
      constructor
      · intro h; exact ⟨h1, h2, h⟩
      · intro h; exact h.2.2
    · simp (disch := omega) only [if_pos, if_neg, w64, rdn, rd0, tn, sc, Option.bind_some, ↓reduceIte, Bool.false_eq_true, Bool.true_eq_false]
      have : ¬ SetP net set := fun h => h2 h.2.1
      exact Ev.val (by simp [this])
  · simp only [h1, decide_false]
    simp (disch := omega) only [if_pos, if_neg, w64, rdn, rd0, tn, sc, Option.bind_some, ↓reduceIte, Bool.false_eq_true, Bool.true_eq_false]
    have : ¬ SetP net set := fun h => h1 h.1
    exact Ev.val (by simp [this])

-- needs Fire
/-- What the next wave is. -/
def NextW (net : List Int) (S : Nat → Prop) (n i : Nat) (k : Nat) : Prop := ∃ j, j < i ∧ Dist net net.length S j n ∧ adj net j k
theorem impl_DistancesFrom_l2 (net : List Int) (hn : NetP net) (S : Nat → Prop) (w : Int) (n : Nat) (hn7 : n ≤ 7)
    (hw1 : ∀ k, k < net.length → bitOf w k → Rch net net.length S n k) (hw2 : ∀ k, k < net.length → Dist net net.length S k n → bitOf w k) (r : List Int)
    (hend : ∀ (y : List Int) (w' : Int), y.length = net.length → (∀ p, p < net.length → G y p = soFar (distOf net net.length S p) ((n + 1 : Nat) : Int)) → 0 ≤ w' → w' < 64 → (∀ k, bitOf w' k ↔ NextW net S n net.length k) →
      Ev (fun k => impl_DistancesFrom.l1 k net w' y ((n + 1 : Nat) : Int)) r) :
    ∀ (d i : Nat) (x : List Int) (x8 : Int), net.length - i = d → i ≤ net.length → x.length = net.length → (∀ p, p < net.length → G x p = soFar (distOf net net.length S p) (if p < i then ((n + 1 : Nat) : Int) else (n : Int))) →
      0 ≤ x8 → x8 < 64 → (∀ k, bitOf x8 k ↔ NextW net S n i k) →
      Ev (fun k => impl_DistancesFrom.l2 k net w x (n : Int) x8 (net.length : Int) (i : Int)) r := by
  intro d
  have h6 := hn.2.1
  induction d with
  | zero =>
    intro i x x8 hd hi hx hp h0 h64 hb
    have ei : i = net.length := by omega
    refine Ev.step (fun k => impl_DistancesFrom.l2.eq_2 ..) ?_
    have hnx := hend x x8 hx (fun p hpl => by rw [hp p hpl, if_pos (by omega)]) h0 h64 (by rw [ei] at hb; exact hb)
    clear hp hb hw1 hw2 hend
    simp (disch := omega) only [if_pos, if_neg, w64, rdn, rd0, tn, sc, Option.bind_some, ↓reduceIte, Bool.false_eq_true, Bool.true_eq_false]
    exact hnx
  | succ d ih =>
    intro i x x8 hd hi hx hp h0 h64 hb
    refine Ev.step (fun k => impl_DistancesFrom.l2.eq_2 ..) ?_
    have hil : i < net.length := by omega
    have hbit := bit_and w (j := i) (by omega)
    have hxi := hp i hil
    rw [if_neg (by omega)] at hxi
    simp only [rdn, hbit]
    clear hbit
    have hstay : distOf net net.length S i ≠ (n : Int) → ∀ p, p < net.length → G x p = soFar (distOf net net.length S p) (if p < i + 1 then ((n + 1 : Nat) : Int) else (n : Int)) := fun hne p hpl => by
      rw [hp p hpl]
      by_cases ep : p = i
      · subst ep; rw [if_neg (by omega), if_pos (by omega), soFar_step.2 hne]
      · by_cases g : p < i
        · rw [if_pos g, if_pos (by omega)]
        · rw [if_neg g, if_neg (by omega)]
    have hbstay : distOf net net.length S i ≠ (n : Int) → ∀ k, bitOf x8 k ↔ NextW net S n (i + 1) k := fun hne k => by
      rw [hb k]
      constructor
      · rintro ⟨j, hj, h1, h2⟩; exact ⟨j, by omega, h1, h2⟩
      · rintro ⟨j, hj, h1, h2⟩
        by_cases ej : j = i
        · subst ej; exact absurd (dist_iff.2 h1) hne
        · exact ⟨j, by omega, h1, h2⟩
    by_cases e1 : w / 2 ^ i % 2 = 1
    · have hr := hw1 i hil e1
      obtain ⟨e, hle, hde⟩ := dist_of_rch n hr
      have hdi := dist_iff.2 hde
      by_cases e2 : e = n
      · subst e2
        have g2 : G x i < 0 := by rw [hxi, hdi]; unfold soFar; rw [if_neg (by omega)]; omega
        have hb64 := net_lt64 hn hil
        obtain ⟨y, hy, hy0, hy64, hyb⟩ := or_two h0 h64 hb64.1 hb64.2
        have hnx := ih (i + 1) (x.set i (e : Int)) y (by omega) (by omega) (by simp [hx]) (fun p hpl => by
          by_cases ep : p = i
          · subst ep; rw [G_set_self _ (by omega), if_pos (by omega), hdi, (soFar_step (v := (e : Int)) (n := e)).1 rfl]
          · rw [G_set_ne _ ep, hp p hpl]
            by_cases g : p < i
            · rw [if_pos g, if_pos (by omega)]
            · rw [if_neg g, if_neg (by omega)]) hy0 hy64 (fun k => by
          have h1 := hyb k
          have h2 := hb k
          constructor
          · intro g
            rcases h1.1 g with g | g
            · obtain ⟨j, hj, a, b⟩ := h2.1 g; exact ⟨j, by omega, a, b⟩
            · exact ⟨i, by omega, hde, g⟩
          · rintro ⟨j, hj, a, b⟩
            by_cases ej : j = i
            · subst ej; exact h1.2 (Or.inr b)
            · exact h1.2 (Or.inl (h2.2 ⟨j, by omega, a, b⟩)))
        clear hp hb hw1 hw2 hend hstay hbstay hyb hxi
        simp only [hy]
        simp (disch := omega) only [if_pos, if_neg, w64, rdn, rd0, tn, sc, Option.bind_some, ↓reduceIte, Bool.false_eq_true, Bool.true_eq_false]
        exact hnx
      · have hne : distOf net net.length S i ≠ (n : Int) := by rw [hdi]; omega
        have g2 : ¬ G x i < 0 := by rw [hxi, hdi]; unfold soFar; rw [if_pos (by omega)]; omega
        have hnx := ih (i + 1) x x8 (by omega) (by omega) hx (hstay hne) h0 h64 (hbstay hne)
        clear hp hb hw1 hw2 hend hstay hbstay hxi
        simp (disch := omega) only [if_pos, if_neg, w64, rdn, rd0, tn, sc, Option.bind_some, ↓reduceIte, Bool.false_eq_true, Bool.true_eq_false]
        exact hnx
    · have hne : distOf net net.length S i ≠ (n : Int) := fun g => e1 (hw2 i hil (dist_iff.1 g))
      have hnx := ih (i + 1) x x8 (by omega) (by omega) hx (hstay hne) h0 h64 (hbstay hne)
      clear hp hb hw1 hw2 hend hstay hbstay hxi
      simp (disch := omega) only [if_pos, if_neg, w64, rdn, rd0, tn, sc, Option.bind_some, ↓reduceIte, Bool.false_eq_true, Bool.true_eq_false]
      exact hnx
theorem impl_DistancesFrom_l1 (net : List Int) (hn : NetP net) (S : Nat → Prop) : ∀ (d n : Nat) (w : Int) (x : List Int), net.length + 1 - n = d → n ≤ net.length + 1 → x.length = net.length →
    (∀ p, p < net.length → G x p = soFar (distOf net net.length S p) (n : Int)) → 0 ≤ w → w < 64 → (∀ k, bitOf w k → k < net.length ∧ Rch net net.length S n k) → (∀ k, k < net.length → Dist net net.length S k n → bitOf w k) →
    (n = net.length + 1 → w = 0) → Ev (fun k => impl_DistancesFrom.l1 k net w x (n : Int)) (mk net.length (distOf net net.length S)) := by
  intro d
  have h6 := hn.2.1
  have hfin : ∀ (n : Nat) (w : Int) (x : List Int), x.length = net.length → (∀ p, p < net.length → G x p = soFar (distOf net net.length S p) (n : Int)) → (∀ k, k < net.length → Dist net net.length S k n → bitOf w k) → w = 0 → x = mk net.length (distOf net net.length S) := by
    intro n w x hx hp hw2 hw
    refine mk_eq_iff.2 ⟨hx, fun p hpl => ?_⟩
    rw [hp p hpl]
    refine soFar_end hpl (fun e he => ?_)
    apply Classical.byContradiction
    intro hge
    obtain ⟨j, hj, hd⟩ := dist_way hpl he n (by omega)
    have := hw2 j hj hd
    rw [hw] at this
    unfold bitOf at this
    simp at this
  induction d with
  | zero =>
    intro n w x hd hn1 hx hp h0 h64 hw1 hw2 hz
    have ew := hz (by omega)
    refine Ev.step (fun k => impl_DistancesFrom.l1.eq_2 ..) ?_
    have := hfin n w x hx hp hw2 ew
    simp only [ew, if_true]
    exact Ev.val this
  | succ d ih =>
    intro n w x hd hn1 hx hp h0 h64 hw1 hw2 hz
    refine Ev.step (fun k => impl_DistancesFrom.l1.eq_2 ..) ?_
    by_cases ew : w = 0
    · have := hfin n w x hx hp hw2 ew
      simp only [ew, if_true]
      exact Ev.val this
    · simp only [ew, if_false, hx]
      refine impl_DistancesFrom_l2 net hn S w n (by omega) (fun k hk hb => (hw1 k hb).2) hw2 _ (fun y w' hy hq h0' h64' hb' => ?_) _ 0 x 0 rfl (by omega) hx (fun p hpl => by rw [hp p hpl, if_neg (by omega)]) (by omega) (by omega) (fun k => ?_)
      · refine ih (n + 1) w' y (by omega) (by omega) hy hq h0' h64' (fun k hb => ?_) (fun k hk hd2 => ?_) (fun e => ?_)
        · obtain ⟨j, hj, h1, h2⟩ := (hb' k).1 hb
          exact ⟨adj_lt hn hj h2, Or.inr ⟨j, hj, h1.1, h2⟩⟩
        · obtain ⟨j, hj, h1, h2⟩ := dist_pred hd2
          exact (hb' k).2 ⟨j, hj, h1, h2⟩
        · refine bit_zero h0' h64' (fun k hb => ?_)
          obtain ⟨j, hj, h1, h2⟩ := (hb' k).1 hb
          have := dist_lt hj h1
          omega
      · constructor
        · intro g; unfold bitOf at g; simp at g
        · rintro ⟨j, hj, _⟩; omega
theorem impl_DistancesFrom_l0 (net : List Int) (set : Int) (h : SetP net set) : ∀ (d i : Nat) (x : List Int), net.length - i = d → i ≤ net.length → x.length = net.length → (∀ p, p < i → G x p = -1) →
    Ev (fun k => impl_DistancesFrom.l0 k net set x (net.length : Int) (i : Int)) (distRow net set) := by
  intro d
  have h6 := h.1.2.1
  have hb := set_lt64 h
  induction d with
  | zero =>
    intro i x hd hi hx hp
    refine Ev.step (fun k => impl_DistancesFrom.l0.eq_2 ..) ?_
    have hx1 := impl_DistancesFrom_l1 net h.1 (bitOf set) _ 0 set x rfl (by omega) hx (fun p hpl => by rw [hp p (by omega)]; unfold soFar; rw [if_neg (by omega)]) hb.1 hb.2 (fun k g => ⟨bit_lt h.2.1 h.2.2 g, g⟩) (fun k _ g => dist_zero.1 g) (fun g => by omega)
    simp (disch := omega) only [if_pos, if_neg, w64, rdn, rd0, tn, sc, Option.bind_some, ↓reduceIte, Bool.false_eq_true, Bool.true_eq_false]
    exact hx1
  | succ d ih =>
    intro i x hd hi hx hp
    refine Ev.step (fun k => impl_DistancesFrom.l0.eq_2 ..) ?_
    simp (disch := omega) only [if_pos, if_neg, w64, rdn, rd0, tn, sc, Option.bind_some, ↓reduceIte, Bool.false_eq_true, Bool.true_eq_false]
    refine ih (i + 1) _ (by omega) (by omega) (by simp [hx]) (fun p hpi => ?_)
    by_cases e : p = i
    · subst e; rw [G_set_self _ (by omega)]
    · rw [G_set_ne _ e]; exact hp p (by omega)
theorem impl_DistancesFrom_ev (net : List Int) (set : Int) (hl : net.length ≤ 1048576) : Ev (fun k => impl_DistancesFrom.f k net set) (distancesFrom net set) := by
  unfold impl_DistancesFrom.f
  refine Ev.bind (impl_setOk_ev net set hl) ?_
  by_cases h : SetP net set
  · rw [distancesFrom_yes h]
    have h6 := h.1.2.1
    simp only [h, decide_true, if_true]
    simp (disch := omega) only [if_pos, if_neg, w64, rdn, rd0, tn, sc, Option.bind_some, ↓reduceIte, Bool.false_eq_true, Bool.true_eq_false]
    simp only [List.length_replicate]
    exact impl_DistancesFrom_l0 net set h _ 0 _ rfl (by omega) (by simp) (fun p g => by omega)
  · rw [distancesFrom_no h]
    simp only [h, decide_false, Bool.false_eq_true, if_false]
    exact Ev.now _

-- needs Parts
theorem impl_PartsOf_l1 (net : List Int) (h : NetP net) (i : Nat) (hi : i < net.length) (x : List Int) (hx : x.length = i) (r : List Int)
    (hend : Ev (fun k => impl_PartsOf.l0 k net (x ++ [((pLeast net net.length i : Nat) : Int)]) (net.length : Int) ((i + 1 : Nat) : Int)) r) : ∀ (d j : Nat), pLeast net net.length i - j = d → j ≤ pLeast net net.length i →
    Ev (fun k => impl_PartsOf.l1 k net x (net.length : Int) (i : Int) (distRow net ((2 : Int) ^ i)) (net.length : Int) (j : Int)) r := by
  intro d
  have h6 := h.2.1
  have hs := pLeast_spec net net.length i
  have hL := distRow_length net ((2 : Int) ^ i)
  induction d with
  | zero =>
    intro j hd hj
    have ej : j = pLeast net net.length i := by omega
    refine Ev.step (fun k => impl_PartsOf.l1.eq_2 ..) ?_
    have hjl : j < net.length := by omega
    have hge : G (distRow net ((2 : Int) ^ i)) j ≥ 0 := (dist_one h hi hjl).2 (by rw [ej]; exact hs.1)
    rw [← ej] at hend
    simp only [rdn]
    simp (disch := omega) only [if_pos, if_neg, w64, rdn, rd0, tn, sc, Option.bind_some, ↓reduceIte, Bool.false_eq_true, Bool.true_eq_false]
    exact hend
  | succ d ih =>
    intro j hd hj
    refine Ev.step (fun k => impl_PartsOf.l1.eq_2 ..) ?_
    have hjl : j < net.length := by omega
    have hno : ¬ G (distRow net ((2 : Int) ^ i)) j ≥ 0 := fun g => by
      have hw := (dist_one h hi hjl).1 g
      have hsym := net_symm h (n := net.length) rfl
      have := hs.2.1 j ((hs.1.symm hsym).trans hw)
      omega
    have hn := ih (j + 1) (by omega) (by omega)
    simp only [rdn]
    simp (disch := omega) only [if_pos, if_neg, w64, rdn, rd0, tn, sc, Option.bind_some, ↓reduceIte, Bool.false_eq_true, Bool.true_eq_false]
    exact hn
theorem impl_PartsOf_l0 (net : List Int) (h : NetP net) : ∀ (d i : Nat), net.length - i = d → i ≤ net.length →
    Ev (fun k => impl_PartsOf.l0 k net (mk i (fun i => ((pLeast net net.length i : Nat) : Int))) (net.length : Int) (i : Int)) (partsRow net) := by
  intro d
  have h6 := h.2.1
  induction d with
  | zero =>
    intro i hd hi
    have ei : i = net.length := by omega
    subst ei
    refine Ev.step (fun k => impl_PartsOf.l0.eq_2 ..) ?_
    simp (disch := omega) only [if_pos, if_neg, w64, rdn, rd0, tn, sc, Option.bind_some, ↓reduceIte, Bool.false_eq_true, Bool.true_eq_false]
    exact Ev.now _
  | succ d ih =>
    intro i hd hi
    refine Ev.step (fun k => impl_PartsOf.l0.eq_2 ..) ?_
    have hil : i < net.length := by omega
    have hn := ih (i + 1) (by omega) (by omega)
    rw [mk_succ] at hn
    have hsh : shl .i64 1 (i : Int) = 2 ^ i := shl1 (by omega)
    simp only [hsh]
    clear hsh
    simp (disch := omega) only [if_pos, if_neg, w64, rdn, rd0, tn, sc, Option.bind_some, ↓reduceIte, Bool.false_eq_true, Bool.true_eq_false]
    refine Ev.bind (impl_DistancesFrom_ev net _ (by omega)) ?_
    rw [distancesFrom_yes (one_set h hil), distRow_length]
    exact impl_PartsOf_l1 net h i hil _ (mk_length _ _) _ hn _ 0 rfl (by omega)
theorem impl_PartsOf_ev (net : List Int) (hl : net.length ≤ 1048576) : Ev (fun k => impl_PartsOf.f k net) (partsOf net) := by
  unfold impl_PartsOf.f
  refine Ev.bind (impl_NetOk_ev net hl) ?_
  by_cases h : NetP net
  · rw [partsOf_yes h]
    simp only [h, decide_true, if_true]
    exact impl_PartsOf_l0 net h _ 0 rfl (by omega)
  · rw [partsOf_no h]
    simp only [h, decide_false, Bool.false_eq_true, if_false]
    exact Ev.now _

-- needs Parts
theorem impl_PeakRow_l1 (net x : List Int) (h : NetP net) (hx : x.length = net.length) (i : Nat) (hi : i < net.length) (y : List Int) (hy : y.length = i) (r : List Int)
    (hend : Ev (fun k => impl_PeakRow.l0 k net x (partsRow net) (y ++ [peakAt net (G x) i]) (net.length : Int) ((i + 1 : Nat) : Int)) r) : ∀ (d j : Nat), net.length - j = d → j ≤ net.length →
    Ev (fun k => impl_PeakRow.l1 k net x (partsRow net) y (i : Int) (maxP (fun k => pLeast net net.length k = pLeast net net.length i) (G x) (G x i) j) (net.length : Int) (i : Int) (net.length : Int) (j : Int)) r := by
  intro d
  have h6 := h.2.1
  have hL := partsRow_length net
  induction d with
  | zero =>
    intro j hd hj
    have ej : j = net.length := by omega
    subst ej
    refine Ev.step (fun k => impl_PeakRow.l1.eq_2 ..) ?_
    have e : maxP (fun k => pLeast net net.length k = pLeast net net.length i) (G x) (G x i) net.length = peakAt net (G x) i := rfl
    rw [e]
    simp (disch := omega) only [if_pos, if_neg, w64, rdn, rd0, tn, sc, Option.bind_some, ↓reduceIte, Bool.false_eq_true, Bool.true_eq_false]
    exact hend
  | succ d ih =>
    intro j hd hj
    have hjl : j < net.length := by omega
    have hn := ih (j + 1) (by omega) (by omega)
    have hp := parts_eq (net := net) hi hjl
    refine Ev.step (fun k => impl_PeakRow.l1.eq_2 ..) ?_
    have hmx : ∀ a b : Int, mx a b = mxi a b := fun _ _ => rfl
    simp only [rdn, hmx]
    clear hmx
    by_cases e : pLeast net net.length j = pLeast net net.length i
    · have e2 := hp.2 e
      have e3 : maxP (fun k => pLeast net net.length k = pLeast net net.length i) (G x) (G x i) (j + 1) = mxi (maxP (fun k => pLeast net net.length k = pLeast net net.length i) (G x) (G x i) j) (G x j) := by simp only [maxP]; rw [if_pos e]
      rw [e3] at hn
      clear hp e3
      simp (disch := omega) only [if_pos, if_neg, w64, rdn, rd0, tn, sc, Option.bind_some, ↓reduceIte, Bool.false_eq_true, Bool.true_eq_false]
      exact hn
    · have e2 : ¬ G (partsRow net) j = G (partsRow net) i := fun g => e (hp.1 g)
      have e3 : maxP (fun k => pLeast net net.length k = pLeast net net.length i) (G x) (G x i) (j + 1) = maxP (fun k => pLeast net net.length k = pLeast net net.length i) (G x) (G x i) j := by simp only [maxP]; rw [if_neg e]
      rw [e3] at hn
      clear hp e3
      simp (disch := omega) only [if_pos, if_neg, w64, rdn, rd0, tn, sc, Option.bind_some, ↓reduceIte, Bool.false_eq_true, Bool.true_eq_false]
      exact hn
theorem impl_PeakRow_l0 (net x : List Int) (h : NetP net) (hx : x.length = net.length) : ∀ (d i : Nat), net.length - i = d → i ≤ net.length →
    Ev (fun k => impl_PeakRow.l0 k net x (partsRow net) (mk i (peakAt net (G x))) (net.length : Int) (i : Int)) (mk net.length (peakAt net (G x))) := by
  intro d
  have h6 := h.2.1
  induction d with
  | zero =>
    intro i hd hi
    have ei : i = net.length := by omega
    subst ei
    refine Ev.step (fun k => impl_PeakRow.l0.eq_2 ..) ?_
    simp (disch := omega) only [if_pos, if_neg, w64, rdn, rd0, tn, sc, Option.bind_some, ↓reduceIte, Bool.false_eq_true, Bool.true_eq_false]
    exact Ev.now _
  | succ d ih =>
    intro i hd hi
    have hn := ih (i + 1) (by omega) (by omega)
    rw [mk_succ] at hn
    refine Ev.step (fun k => impl_PeakRow.l0.eq_2 ..) ?_
    have := impl_PeakRow_l1 net x h hx i (by omega) _ (mk_length _ _) _ hn _ 0 rfl (by omega)
    simp only [rdn]
    simp (disch := omega) only [if_pos, if_neg, w64, rdn, rd0, tn, sc, Option.bind_some, ↓reduceIte, Bool.false_eq_true, Bool.true_eq_false]
    exact this
theorem impl_PeakRow_ev (net s : List Int) (hn : net.length ≤ 1048576) (hs : s.length ≤ 1048576) : Ev (fun k => impl_PeakRow.f k net s) (peakRow net s) := by
  unfold impl_PeakRow.f
  refine Ev.bind (impl_HeightRow_ev net s hn hs) ?_
  by_cases h : Asked net 3 s ∧ Flat net s
  · have e := (heightRow_flat net s).2 h
    obtain ⟨x, hx, _, hr⟩ := heightRow_spec h.1 h.2
    have hp : peakRow net s = mk net.length (peakAt net (G x)) := by unfold peakRow; rw [hr]; rfl
    rw [hp, hr]
    simp only [if_true]
    refine Ev.bind (impl_PartsOf_ev net hn) ?_
    rw [partsOf_yes h.1.1]
    exact impl_PeakRow_l0 net x h.1.1 (by rw [hx]; exact h.1.2.2.symm) _ 0 rfl (by omega)
  · have hp : peakRow net s = [] := by unfold peakRow; rw [heightRow_no h]; rfl
    rw [hp, heightRow_no h]
    simp only [Bool.false_eq_true, if_false]
    exact Ev.now _

theorem FnExactPeakRow_j0 (net : List Int) (hnet : net.length ≤ 1048576) (state : List Int) (hstate : state.length ≤ 1048576) : Ev (fun k => laws_FnExactPeakRow.j0 k net state (peakRow net state) (peakRow net state) false) true := by
  have hg : ((peakRow net state)).length ≤ 1048576 := by have := peakRow_length net state; omega
  refine Ev.step (fun k => laws_FnExactPeakRow.j0.eq_2 ..) ?_
  simp (disch := omega) only [if_pos, if_neg, w64, rdn, rd0, tn, sc, Option.bind_some, ↓reduceIte, Bool.false_eq_true, Bool.true_eq_false]
  refine Ev.bind (laws_markIntS_ev _ hg) ?_
  refine Ev.bind (laws_heldIntS_ev _ hg) ?_
  simp (disch := omega) only [if_pos, if_neg, w64, rdn, rd0, tn, sc, Option.bind_some, ↓reduceIte, Bool.false_eq_true, Bool.true_eq_false]
  refine Ev.bind (laws_toIntS_ev net hnet) ?_
  refine Ev.bind (laws_toIntS_ev state hstate) ?_
  refine Ev.bind (impl_PeakRow_ev net state hnet hstate) ?_
  refine Ev.bind (laws_eqIntS_self _ hg) ?_
  simp (disch := omega) only [if_pos, if_neg, w64, rdn, rd0, tn, sc, Option.bind_some, ↓reduceIte, Bool.false_eq_true, Bool.true_eq_false]
  refine Ev.bind (laws_heldIntS_ev _ hg) ?_
  simp (disch := omega) only [if_pos, if_neg, w64, rdn, rd0, tn, sc, Option.bind_some, ↓reduceIte, Bool.false_eq_true, Bool.true_eq_false]
  exact Ev.now _
theorem FnExactPeakRow : laws_FnExactPeakRow.Pure := by
  intro net state _ _ _ _ _ _
  refine Ev.rounds (r := true) ?_
  unfold laws_FnExactPeakRow.f
  by_cases hnet : net.length ≤ 1048576
  rotate_left
  · simp (disch := omega) only [if_pos, if_neg, w64, rdn, rd0, tn, sc, Option.bind_some, ↓reduceIte, Bool.false_eq_true, Bool.true_eq_false]
    exact Ev.now _
  by_cases hstate : state.length ≤ 1048576
  rotate_left
  · simp (disch := omega) only [if_pos, if_neg, w64, rdn, rd0, tn, sc, Option.bind_some, ↓reduceIte, Bool.false_eq_true, Bool.true_eq_false]
    exact Ev.now _
  simp (disch := omega) only [if_pos, if_neg, w64, rdn, rd0, tn, sc, Option.bind_some, ↓reduceIte, Bool.false_eq_true, Bool.true_eq_false]
  refine Ev.bind (laws_toIntS_ev net hnet) ?_
  refine Ev.bind (laws_toIntS_ev state hstate) ?_
  refine Ev.bind (spec_PeakRow_ev net state hnet hstate) ?_
  refine Ev.bind (laws_toIntS_ev net hnet) ?_
  refine Ev.bind (laws_toIntS_ev state hstate) ?_
  refine Ev.bind (impl_PeakRow_ev net state hnet hstate) ?_
  have hg : ((peakRow net state)).length ≤ 1048576 := by have := peakRow_length net state; omega
  refine Ev.bind (laws_eqIntS_self _ hg) ?_
  simp (disch := omega) only [if_pos, if_neg, w64, rdn, rd0, tn, sc, Option.bind_some, ↓reduceIte, Bool.false_eq_true, Bool.true_eq_false]
  refine Ev.bind (laws_toIntS_ev net hnet) ?_
  refine Ev.bind (laws_eqIntS_self _ hnet) ?_
  simp (disch := omega) only [if_pos, if_neg, w64, rdn, rd0, tn, sc, Option.bind_some, ↓reduceIte, Bool.false_eq_true, Bool.true_eq_false]
  refine Ev.bind (laws_toIntS_ev state hstate) ?_
  refine Ev.bind (laws_eqIntS_self _ hstate) ?_
  simp (disch := omega) only [if_pos, if_neg, w64, rdn, rd0, tn, sc, Option.bind_some, ↓reduceIte, Bool.false_eq_true, Bool.true_eq_false]
  refine Ev.bind (laws_markIntS_ev _ hnet) ?_
  refine Ev.bind (laws_markIntS_ev2 _ (1 + net.length) (by omega) hstate) ?_
  simp (disch := omega) only [if_pos, if_neg, w64, rdn, rd0, tn, sc, Option.bind_some, ↓reduceIte, Bool.false_eq_true, Bool.true_eq_false]
  refine Ev.bind (laws_eqIntS_self _ hg) ?_
  simp only [Bool.not_true]
  exact FnExactPeakRow_j0 net hnet state hstate

end Go.Proofs.Ytokhnnhinafnfaa.Pure
