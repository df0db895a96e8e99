/- Proved: the statement FnExactStandsAt, for every input, without further conditions. -/
import Derived.Test.YtbbafjmfdbjkaaaPFnExactStandsAtx6
import Derived.Test.YtbbafjmfdbjkaaaBase
import Derived.Test.YtbbafjmfdbjkaaaHeights
import Derived.Test.YtbbafjmfdbjkaaaStand
import Derived.Test.YtbbafjmfdbjkaaaTurn
namespace Go.Proofs.Ytbbafjmfdbjkaaa.Pure
open Go.RowKit Go.Proofs.Ytbbafjmfdbjkaaa.PFnExactStandsAt Go.Proofs.YtbbafjmfdbjkaaaW.PrintWords Go.Proofs.YtbbafjmfdbjkaaaW.PrintLast Go.Proofs.Ytbbafjmfdbjkaaa.B Go.Proofs.Ytbbafjmfdbjkaaa.C
set_option linter.unusedSimpArgs false
set_option linter.unusedVariables false

theorem laws_toIntS_l0 (l : List Int) (hl : l.length ≤ 1048576) : ∀ (d : Nat) (x : List Int) (i : Nat), l.length - i = d → i ≤ l.length → x.length = l.length → (∀ j, j < i → G x j = G l j) → Ev (fun k => laws_toIntS.l0 k l x (i : Int)) l := by
  intro d
  induction d with
  | zero =>
    intro x i hd hi hx hj
    refine Ev.step (fun k => laws_toIntS.l0.eq_2 ..) ?_
    simp (disch := omega) only [if_pos, if_neg, w64, rdn, rd0, tn, sc, Option.bind_some, ↓reduceIte, Bool.false_eq_true, Bool.true_eq_false]
    exact Ev.val (ext hx (fun j h => hj j (by omega)))
  | succ d ih =>
    intro x i hd hi hx hj
    refine Ev.step (fun k => laws_toIntS.l0.eq_2 ..) ?_
    simp (disch := omega) only [if_pos, if_neg, w64, rdn, rd0, tn, sc, Option.bind_some, ↓reduceIte, Bool.false_eq_true, Bool.true_eq_false]
    refine ih _ _ (by omega) (by omega) (by simp [hx]) ?_
    intro j hji
    by_cases e : j = i
    · subst e; rw [G_set_self _ (by omega)]
    · rw [G_set_ne _ e]; exact hj j (by omega)
theorem laws_toIntS_ev (l : List Int) (hl : l.length ≤ 1048576) : Ev (fun k => laws_toIntS.f k l) l := by
  unfold laws_toIntS.f
  simp (disch := omega) only [if_pos, if_neg, w64, rdn, rd0, tn, sc, Option.bind_some, ↓reduceIte, Bool.false_eq_true, Bool.true_eq_false]
  exact laws_toIntS_l0 l hl _ _ 0 rfl (by omega) (by simp) (fun j h => by omega)

theorem laws_eqIntS_l0 (a b : List Int) (hl : a.length ≤ 1048576) (hab : a.length = b.length) : ∀ (d : Nat) (i : Nat), a.length - i = d → i ≤ a.length → (∀ j, j < i → G a j = G b j) → Ev (fun k => laws_eqIntS.l0 k a b (i : Int)) (decide (a = b)) := by
  intro d
  induction d with
  | zero =>
    intro i hd hi hj
    refine Ev.step (fun k => laws_eqIntS.l0.eq_2 ..) ?_
    simp (disch := omega) only [if_pos, if_neg, w64, rdn, rd0, tn, sc, Option.bind_some, ↓reduceIte, Bool.false_eq_true, Bool.true_eq_false]
    have e : a = b := ext hab (fun j h => hj j (by omega))
    exact Ev.val (by simp [e])
  | succ d ih =>
    intro i hd hi hj
    refine Ev.step (fun k => laws_eqIntS.l0.eq_2 ..) ?_
    by_cases e : G a i = G b i
    · simp (disch := omega) only [if_pos, if_neg, w64, rdn, rd0, tn, sc, Option.bind_some, ↓reduceIte, Bool.false_eq_true, Bool.true_eq_false]
      refine ih _ (by omega) (by omega) ?_
      intro j hji
      by_cases e' : j = i
      · subst e'; exact e
      · exact hj j (by omega)
    · simp (disch := omega) only [if_pos, if_neg, w64, rdn, rd0, tn, sc, Option.bind_some, ↓reduceIte, Bool.false_eq_true, Bool.true_eq_false]
      have : a ≠ b := fun h => e (by rw [h])
      exact Ev.val (by simp [this])
theorem laws_eqIntS_ev (a b : List Int) (hl : a.length ≤ 1048576) : Ev (fun k => laws_eqIntS.f k a b) (decide (a = b)) := by
  unfold laws_eqIntS.f
  by_cases hab : a.length = b.length
  · simp (disch := omega) only [if_pos, if_neg, w64, rdn, rd0, tn, sc, Option.bind_some, ↓reduceIte, Bool.false_eq_true, Bool.true_eq_false]
    exact laws_eqIntS_l0 a b hl hab _ 0 rfl (by omega) (fun j h => by omega)
  · simp (disch := omega) only [if_pos, if_neg, w64, rdn, rd0, tn, sc, Option.bind_some, ↓reduceIte, Bool.false_eq_true, Bool.true_eq_false]
    have : a ≠ b := fun h => hab (by rw [h])
    exact Ev.val (by simp [this])
theorem laws_eqIntS_self (a : List Int) (hl : a.length ≤ 1048576) : Ev (fun k => laws_eqIntS.f k a a) true := by
  have h := laws_eqIntS_ev a a hl
  simpa using h

theorem spec_l1In_eq (a b c : Int) : spec_l1In.f a b c = some (decide (b ≤ a ∧ a ≤ c)) := by
  unfold spec_l1In.f
  by_cases h : b ≤ a <;> simp [h]

theorem spec_NetOk_l2 (l : List Int) (h6 : l.length ≤ 6) (hr : ∀ j, j < l.length → 0 ≤ G l j ∧ G l j < 2 ^ l.length) (i : Nat) (hi : i < l.length) (r : Bool)
    (hbad : ∀ k, k < l.length → ¬ ((adj l i k ↔ adj l k i) ∧ ¬ (k = i ∧ adj l i i)) → r = false)
    (hgood : (∀ k, k < l.length → (adj l i k ↔ adj l k i)) → ¬ adj l i i → Ev (fun k => spec_NetOk.l1 k l ((i + 1 : Nat) : Int)) r) :
    ∀ (d : Nat) (j : Nat), l.length - j = d → j ≤ l.length → (∀ k, k < j → (adj l i k ↔ adj l k i) ∧ ¬ (k = i ∧ adj l i i)) →
      Ev (fun k => spec_NetOk.l2 k l (i : Int) (j : Int)) r := by
  intro d
  induction d with
  | zero =>
    intro j hd hj hk
    refine Ev.step (fun k => spec_NetOk.l2.eq_2 ..) ?_
    simp (disch := omega) only [if_pos, if_neg, w64, rdn, rd0, tn, sc, Option.bind_some, ↓reduceIte, Bool.false_eq_true, Bool.true_eq_false]
    exact hgood (fun k hkl => (hk k (by omega)).1) (fun h => (hk i (by omega)).2 ⟨rfl, h⟩)
  | succ d ih =>
    intro j hd hj hk
    refine Ev.step (fun k => spec_NetOk.l2.eq_2 ..) ?_
    have b1 := bit_mod (G l i) (j := j) (by omega) (hr i hi).1
    have b2 := bit_mod (G l j) (j := i) (by omega) (hr j (by omega)).1
    have m1 := Int.emod_two_eq (G l i / 2 ^ j)
    have m2 := Int.emod_two_eq (G l j / 2 ^ i)
    by_cases e : adj l i j ↔ adj l j i
    · have e' : G l i / 2 ^ j % 2 = G l j / 2 ^ i % 2 := by
        unfold adj at e
        by_cases c : G l i / 2 ^ j % 2 = 1
        · rw [c, e.1 c]
        · have c2 := fun h => c (e.2 h)
          omega
      simp only [rdn, b1, b2]
      by_cases eji : j = i
      · by_cases ea : G l i / 2 ^ j % 2 = 1
        · simp (disch := omega) only [if_pos, if_neg, w64, rdn, rd0, tn, sc, Option.bind_some, ↓reduceIte, Bool.false_eq_true, Bool.true_eq_false]
          refine Ev.val (hbad j (by omega) (fun h => h.2 ⟨eji, ?_⟩)).symm
          rw [eji] at ea; exact ea
        · simp (disch := omega) only [if_pos, if_neg, w64, rdn, rd0, tn, sc, Option.bind_some, ↓reduceIte, Bool.false_eq_true, Bool.true_eq_false]
          refine ih _ (by omega) (by omega) ?_
          intro k hkj
          by_cases e'' : k = j
          · subst e''; refine ⟨e, fun h => ea ?_⟩; have := h.2; rw [eji]; exact this
          · exact hk k (by omega)
      · simp (disch := omega) only [if_pos, if_neg, w64, rdn, rd0, tn, sc, Option.bind_some, ↓reduceIte, Bool.false_eq_true, Bool.true_eq_false]
        refine ih _ (by omega) (by omega) ?_
        intro k hkj
        by_cases e'' : k = j
        · subst e''; exact ⟨e, fun h => eji h.1⟩
        · exact hk k (by omega)
    · have e' : ¬ G l i / 2 ^ j % 2 = G l j / 2 ^ i % 2 := by
        intro h
        apply e
        unfold adj
        rw [h]
      simp only [rdn, b1, b2]
      simp (disch := omega) only [if_pos, if_neg, w64, rdn, rd0, tn, sc, Option.bind_some, ↓reduceIte, Bool.false_eq_true, Bool.true_eq_false]
      exact Ev.val (hbad j (by omega) (fun h => e h.1)).symm
theorem spec_NetOk_l1 (l : List Int) (h1 : 1 ≤ l.length) (h6 : l.length ≤ 6) (hr : ∀ j, j < l.length → 0 ≤ G l j ∧ G l j < 2 ^ l.length) : ∀ (d : Nat) (i : Nat), l.length - i = d → i ≤ l.length →
    (∀ j, j < i → (¬ adj l j j ∧ ∀ k, k < l.length → (adj l j k ↔ adj l k j))) → Ev (fun k => spec_NetOk.l1 k l (i : Int)) (decide (NetP l)) := by
  intro d
  induction d with
  | zero =>
    intro i hd hi hj
    refine Ev.step (fun k => spec_NetOk.l1.eq_2 ..) ?_
    simp (disch := omega) only [if_pos, if_neg, w64, rdn, rd0, tn, sc, Option.bind_some, ↓reduceIte, Bool.false_eq_true, Bool.true_eq_false]
    have : NetP l := ⟨h1, h6, fun j h => ⟨(hr j h).1, (hr j h).2, (hj j (by omega)).1, (hj j (by omega)).2⟩⟩
    exact Ev.val (by simp [this])
  | succ d ih =>
    intro i hd hi hj
    refine Ev.step (fun k => spec_NetOk.l1.eq_2 ..) ?_
    simp (disch := omega) only [if_pos, if_neg, w64, rdn, rd0, tn, sc, Option.bind_some, ↓reduceIte, Bool.false_eq_true, Bool.true_eq_false]
    refine spec_NetOk_l2 l h6 hr i (by omega) _ ?_ ?_ _ 0 rfl (by omega) (fun k h => by omega)
    · intro k hk hn
      have : ¬ NetP l := fun p => hn ⟨(p.2.2 i (by omega)).2.2.2 k hk, fun h => (p.2.2 i (by omega)).2.2.1 h.2⟩
      simp [this]
    · intro hall hirr
      refine ih _ (by omega) (by omega) ?_
      intro j hji
      by_cases e' : j = i
      · subst e'; exact ⟨hirr, hall⟩
      · exact hj j (by omega)
theorem spec_NetOk_l0 (l : List Int) (h1 : 1 ≤ l.length) (h6 : l.length ≤ 6) : ∀ (d : Nat) (i : Nat), l.length - i = d → i ≤ l.length →
    (∀ j, j < i → 0 ≤ G l j ∧ G l j < 2 ^ l.length) → Ev (fun k => spec_NetOk.l0 k l (i : Int)) (decide (NetP l)) := by
  intro d
  induction d with
  | zero =>
    intro i hd hi hj
    refine Ev.step (fun k => spec_NetOk.l0.eq_2 ..) ?_
    simp (disch := omega) only [if_pos, if_neg, w64, rdn, rd0, tn, sc, Option.bind_some, ↓reduceIte, Bool.false_eq_true, Bool.true_eq_false]
    exact spec_NetOk_l1 l h1 h6 (fun j h => hj j (by omega)) _ 0 rfl (by omega) (fun j h => by omega)
  | succ d ih =>
    intro i hd hi hj
    refine Ev.step (fun k => spec_NetOk.l0.eq_2 ..) ?_
    have hs := shl1 (n := l.length) (by omega)
    have hp := pow_lt63 (n := l.length) (by omega)
    have hq := pow_pos2 l.length
    have hw : wrap64 ((2 : Int) ^ l.length - 1) = 2 ^ l.length - 1 := w64 (by omega) (by omega)
    simp only [rdn, hs, hw, spec_l1In_eq, Option.bind_some]
    by_cases e : 0 ≤ G l i ∧ G l i ≤ 2 ^ l.length - 1
    · simp only [e, and_self, decide_true]
      simp (disch := omega) only [if_pos, if_neg, w64, rdn, rd0, tn, sc, Option.bind_some, ↓reduceIte, Bool.false_eq_true, Bool.true_eq_false]
      refine ih _ (by omega) (by omega) ?_
      intro j hji
      by_cases e' : j = i
      · subst e'; omega
      · exact hj j (by omega)
    · simp only [e, decide_false]
      simp (disch := omega) only [if_pos, if_neg, w64, rdn, rd0, tn, sc, Option.bind_some, ↓reduceIte, Bool.false_eq_true, Bool.true_eq_false]
      have : ¬ NetP l := fun p => e ⟨(p.2.2 i (by omega)).1, by have := (p.2.2 i (by omega)).2.1; omega⟩
      exact Ev.val (by simp [this])
theorem spec_NetOk_ev (l : List Int) (hl : l.length ≤ 1048576) : Ev (fun k => spec_NetOk.f k l) (decide (NetP l)) := by
  unfold spec_NetOk.f
  simp only [spec_l1In_eq, Option.bind_some]
  by_cases h : 1 ≤ l.length ∧ l.length ≤ 6
  · have h' : (1 : Int) ≤ (l.length : Int) ∧ (l.length : Int) ≤ 6 := by omega
    simp only [h', and_self, decide_true]
    simp (disch := omega) only [if_pos, if_neg, w64, rdn, rd0, tn, sc, Option.bind_some, ↓reduceIte, Bool.false_eq_true, Bool.true_eq_false]
    exact spec_NetOk_l0 l h.1 h.2 _ 0 rfl (by omega) (fun j h => by omega)
  · have h' : ¬ ((1 : Int) ≤ (l.length : Int) ∧ (l.length : Int) ≤ 6) := by omega
    simp only [h', decide_false]
    simp (disch := omega) only [if_pos, if_neg, w64, rdn, rd0, tn, sc, Option.bind_some, ↓reduceIte, Bool.false_eq_true, Bool.true_eq_false]
    have : ¬ NetP l := fun p => h ⟨p.1, p.2.1⟩
    exact Ev.val (by simp [this])

theorem spec_StateOk_l0 (a : Int) (l : List Int) (hl : l.length ≤ 1048576) : ∀ (d : Nat) (i : Nat), l.length - i = d → i ≤ l.length → (∀ j, j < i → 0 ≤ G l j ∧ G l j < a) → Ev (fun k => spec_StateOk.l0 k a l (i : Int)) (decide (StateP a l)) := by
  intro d
  induction d with
  | zero =>
    intro i hd hi hj
    refine Ev.step (fun k => spec_StateOk.l0.eq_2 ..) ?_
    simp only [spec_l1In_eq, Option.bind_some]
    obtain rfl : i = l.length := by omega
    by_cases h : 3 ≤ a ∧ a ≤ 5
    · simp only [h, and_self, decide_true]
      simp (disch := omega) only [if_pos, if_neg, w64, rdn, rd0, tn, sc, Option.bind_some, ↓reduceIte, Bool.false_eq_true, Bool.true_eq_false]
      refine Ev.val ?_
      rw [decide_eq_decide]
      unfold StateP
      constructor
      · intro e; exact ⟨h.1, h.2, by omega, by omega, hj⟩
      · intro e; have := e.2.2.1; have := e.2.2.2.1; omega
    · simp only [h, decide_false]
      simp (disch := omega) only [if_pos, if_neg, w64, rdn, rd0, tn, sc, Option.bind_some, ↓reduceIte, Bool.false_eq_true, Bool.true_eq_false]
      refine Ev.val ?_
      have : ¬ StateP a l := fun p => h ⟨p.1, p.2.1⟩
      simp [this]
  | succ d ih =>
    intro i hd hi hj
    refine Ev.step (fun k => spec_StateOk.l0.eq_2 ..) ?_
    by_cases e0 : G l i < 0
    · simp (disch := omega) only [if_pos, if_neg, w64, rdn, rd0, tn, sc, Option.bind_some, ↓reduceIte, Bool.false_eq_true, Bool.true_eq_false]
      refine Ev.val ?_
      have : ¬ StateP a l := fun p => by have := p.2.2.2.2 i (by omega); omega
      simp [this]
    · by_cases e1 : G l i ≥ a
      · simp (disch := omega) only [if_pos, if_neg, w64, rdn, rd0, tn, sc, Option.bind_some, ↓reduceIte, Bool.false_eq_true, Bool.true_eq_false]
        refine Ev.val ?_
        have : ¬ StateP a l := fun p => by have := p.2.2.2.2 i (by omega); omega
        simp [this]
      · simp (disch := omega) only [if_pos, if_neg, w64, rdn, rd0, tn, sc, Option.bind_some, ↓reduceIte, Bool.false_eq_true, Bool.true_eq_false]
        refine ih (i + 1) (by omega) (by omega) ?_
        intro j hji
        by_cases e' : j = i
        · subst e'; omega
        · exact hj j (by omega)
theorem spec_StateOk_ev (a : Int) (l : List Int) (hl : l.length ≤ 1048576) : Ev (fun k => spec_StateOk.f k a l) (decide (StateP a l)) := by
  unfold spec_StateOk.f
  exact spec_StateOk_l0 a l hl _ 0 rfl (by omega) (fun j h => by omega)

theorem spec_l3Ok_ev (net s : List Int) (kinds : Int) (hn : net.length ≤ 1048576) (hs : s.length ≤ 1048576) : Ev (fun k => spec_l3Ok.f k net kinds s) (decide (Asked net kinds s)) := by
  unfold spec_l3Ok.f
  refine Ev.bind (spec_NetOk_ev net hn) ?_
  by_cases h1 : NetP net
  · simp only [h1, decide_true]
    simp (disch := omega) only [if_pos, if_neg, w64, rdn, rd0, tn, sc, Option.bind_some, ↓reduceIte, Bool.false_eq_true, Bool.true_eq_false]
    refine Ev.bind (spec_StateOk_ev kinds s hs) ?_
    by_cases h2 : StateP kinds s
    · simp only [h2, decide_true]
      simp (disch := omega) only [if_pos, if_neg, w64, rdn, rd0, tn, sc, Option.bind_some, ↓reduceIte, Bool.false_eq_true, Bool.true_eq_false]
      refine Ev.val ?_
      rw [Bool.eq_iff_iff, beq_iff_eq, decide_eq_true_eq]
      unfold Asked
      constructor
      · intro h; exact ⟨h1, h2, by omega⟩
      · intro h; have := h.2.2; omega
    · simp only [h2, decide_false]
      simp (disch := omega) only [if_pos, if_neg, w64, rdn, rd0, tn, sc, Option.bind_some, ↓reduceIte, Bool.false_eq_true, Bool.true_eq_false]
      have : ¬ Asked net kinds s := fun h => h2 h.2.1
      exact Ev.val (by simp [this])
  · simp only [h1, decide_false]
    simp (disch := omega) only [if_pos, if_neg, w64, rdn, rd0, tn, sc, Option.bind_some, ↓reduceIte, Bool.false_eq_true, Bool.true_eq_false]
    have : ¬ Asked net kinds s := fun h => h1 h.1
    exact Ev.val (by simp [this])

theorem spec_l6Rise_eq (a b : Int) (ha : 0 ≤ a ∧ a < 3) (hb : 0 ≤ b ∧ b < 3) : spec_l6Rise.f a b = some (rise a b) := by
  unfold spec_l6Rise.f rise
  have h1 : wrap64 (b - a) = b - a := w64 (by omega) (by omega)
  have h2 : wrap64 (b - a + 3) = b - a + 3 := w64 (by omega) (by omega)
  have h3 : wrap64 (b - a + 3 + 1) = b - a + 4 := by rw [w64 (by omega) (by omega)]; omega
  rw [h1, h2, h3, tmod_nn (by omega), w64 (by omega) (by omega)]

-- needs Heights
def bit (x : Int) (j : Nat) : Prop := x / 2 ^ j % 2 = 1
instance (x : Int) (j : Nat) : Decidable (bit x j) := by unfold bit; infer_instance
/-- How many of the first n a set has. -/
def cnt (x : Int) (n : Nat) : Int := sumN (fun i => if bit x i then 1 else 0) n
theorem cnt_bd (x : Int) (n : Nat) : 0 ≤ cnt x n ∧ cnt x n ≤ n := by
  induction n with
  | zero => simp [cnt, sumN]
  | succ n ih =>
    have e : cnt x (n + 1) = cnt x n + (if bit x n then 1 else 0) := rfl
    rw [e]; split <;> omega
theorem cnt_more {x y : Int} {j : Nat} (hb : ¬ bit x j) (hy : ∀ k, bit y k ↔ (bit x k ∨ k = j)) : ∀ n, cnt y n = cnt x n + if j < n then 1 else 0
  | 0 => by simp [cnt, sumN]
  | n + 1 => by
    have e1 : cnt y (n + 1) = cnt y n + (if bit y n then 1 else 0) := rfl
    have e2 : cnt x (n + 1) = cnt x n + (if bit x n then 1 else 0) := rfl
    rw [e1, e2, cnt_more hb hy n]
    by_cases e : n = j
    · subst e
      have : bit y n := (hy n).2 (Or.inr rfl)
      simp [this, hb]
    · have : bit y n ↔ bit x n := by rw [hy n]; simp [e]
      simp only [this]
      by_cases e3 : j < n
      · simp [e3, show j < n + 1 from by omega]; omega
      · simp [e3, show ¬ j < n + 1 from by omega]
structure SInv (net s : List Int) (Old : Nat → Prop) (f : Nat) (x : List Int) (z : Int) : Prop where
  lx : x.length = s.length
  z0 : 0 ≤ z
  z1 : z < 64
  ent : ∀ a, a < s.length → bit z a → Old a ∨ (¬ Old a ∧ f ≤ a ∧ WayTo net s.length f a ∧ ∀ g, Heights net s g → G x a = g a - g f)
  old : ∀ a, a < s.length → Old a → bit z a
  zer : ∀ a, a < s.length → ¬ bit z a → G x a = 0
  upf : ∀ a, a < s.length → a ≤ f → bit z a
  xf : G x f = 0
  bnd : ∀ a, a < s.length → - cnt z s.length ≤ G x a ∧ G x a ≤ cnt z s.length
  ocl : ∀ a b, a < s.length → b < s.length → Old a → adj net a b → Old b
  odf : ∀ g, Heights net s g → ∀ a b, a < s.length → b < s.length → Old a → adj net a b → G x b - G x a = g b - g a
  onm : ∀ a, a < s.length → Old a → Least net s.length a → G x a = 0
theorem sinv_more {net s : List Int} (hA : Asked net 3 s) {Old : Nat → Prop} {f : Nat} {x : List Int} {z y : Int} (h : SInv net s Old f x z) (hf : f < s.length) {i j : Nat} (hi : i < s.length) (hj : j < s.length) (ha : adj net i j) (hbi : bit z i) (hb : ¬ bit z j)
    (y0 : 0 ≤ y) (y1 : y < 64) (hy : ∀ k, bit y k ↔ (bit z k ∨ k = j)) : SInv net s Old f (x.set j (G x i + rise (G s i) (G s j))) y := by
  have hT := cnt_more hb hy s.length
  rw [if_pos hj] at hT
  have hr := rise_le (G s i) (G s j)
  have jf : f < j := by
    apply Nat.lt_of_not_le
    intro hle
    exact hb (h.upf j hj hle)
  have jno : ¬ Old j := fun ho => hb (h.old j hj ho)
  have ino : ¬ Old i := fun ho => jno (h.ocl i j hi hj ho ha)
  have nej : ∀ a, bit z a → a ≠ j := fun a hab e => by subst e; exact hb hab
  have xne : ∀ a, a ≠ j → G (x.set j (G x i + rise (G s i) (G s j))) a = G x a := fun a e => G_set_ne _ e
  have xj : G (x.set j (G x i + rise (G s i) (G s j))) j = G x i + rise (G s i) (G s j) := G_set_self _ (by rw [h.lx]; exact hj)
  rcases h.ent i hi hbi with ho | ⟨_, hfi, hwi, hgi⟩
  · exact absurd ho ino
  constructor
  · simp [h.lx]
  · exact y0
  · exact y1
  · intro a hal hab
    rcases (hy a).1 hab with hz | rfl
    · rcases h.ent a hal hz with ho | ⟨c1, c2, c3, c4⟩
      · exact Or.inl ho
      · exact Or.inr ⟨c1, c2, c3, fun g hg => by rw [xne a (nej a hz)]; exact c4 g hg⟩
    · exact Or.inr ⟨jno, by omega, hwi.trans (WayTo.step hi hj ha), fun g hg => by rw [xj, hgi g hg, hg i a hi hj ha]; omega⟩
  · intro a hal ho; exact (hy a).2 (Or.inl (h.old a hal ho))
  · intro a hal hab
    have n1 : ¬ bit z a := fun hz => hab ((hy a).2 (Or.inl hz))
    have n2 : a ≠ j := fun e => hab ((hy a).2 (Or.inr e))
    rw [xne a n2]; exact h.zer a hal n1
  · intro a hal haf; exact (hy a).2 (Or.inl (h.upf a hal haf))
  · rw [xne f (by omega)]; exact h.xf
  · intro a hal
    rw [hT]
    have hb1 := h.bnd a hal
    have hb2 := h.bnd i hi
    by_cases e : a = j
    · subst e; rw [xj]; omega
    · rw [xne a e]; omega
  · exact h.ocl
  · intro g hg a b hal hbl ho hab
    have hob := h.ocl a b hal hbl ho hab
    rw [xne a (nej a (h.old a hal ho)), xne b (nej b (h.old b hbl hob))]
    exact h.odf g hg a b hal hbl ho hab
  · intro a hal ho hl
    rw [xne a (nej a (h.old a hal ho))]; exact h.onm a hal ho hl
theorem l7_l3 (net s : List Int) (hA : Asked net 3 s) (Old : Nat → Prop) (f : Nat) (hf : f < s.length) (r : List Int × Bool) (c0 : Int) (i : Nat) (hi : i < s.length)
    (hnext : ∀ x z again, SInv net s Old f x z → c0 ≤ cnt z s.length → (again = true → c0 < cnt z s.length) → (again = false → ∀ a, a < i + 1 → bit z a → ∀ b, b < s.length → adj net a b → bit z b) → Ev (fun k => spec_l7Heights.l2 k net s x z (f : Int) again ((i + 1 : Nat) : Int)) r) :
    ∀ (d j : Nat) (x : List Int) (z : Int) (again : Bool), j + d = s.length → SInv net s Old f x z → c0 ≤ cnt z s.length → (again = true → c0 < cnt z s.length) → (again = false → ∀ a, a < i → bit z a → ∀ b, b < s.length → adj net a b → bit z b) →
      (again = false → bit z i → ∀ b, b < j → adj net i b → bit z b) → Ev (fun k => spec_l7Heights.l3 k net s x z (f : Int) again (i : Int) (j : Int)) r := by
  intro d
  have h6 := asked6 hA
  have hl := hA.2.2
  have fin : ∀ x z again, SInv net s Old f x z → c0 ≤ cnt z s.length → (again = true → c0 < cnt z s.length) → (again = false → ∀ a, a < i → bit z a → ∀ b, b < s.length → adj net a b → bit z b) → (again = false → bit z i → ∀ b, b < s.length → adj net i b → bit z b) →
      Ev (fun k => spec_l7Heights.l2 k net s x z (f : Int) again ((i + 1 : Nat) : Int)) r := by
    intro x z again h hc ht hp hq
    refine hnext x z again h hc ht (fun hg a ha hza b hb hab => ?_)
    by_cases e : a = i
    · subst e; exact hq hg hza b hb hab
    · exact hp hg a (by omega) hza b hb hab
  induction d with
  | zero =>
    intro j x z again hd h hc ht hp hq
    refine Ev.step (fun k => spec_l7Heights.l3.eq_2 ..) ?_
    simp (disch := omega) only [if_pos, if_neg, w64, rdn, rd0, tn, sc, Option.bind_some, ↓reduceIte, Bool.false_eq_true, Bool.true_eq_false]
    refine Ev.step (fun k => spec_l7Heights.j4.eq_2 ..) ?_
    simp (disch := omega) only [if_pos, if_neg, w64, rdn, rd0, tn, sc, Option.bind_some, ↓reduceIte, Bool.false_eq_true, Bool.true_eq_false]
    exact fin x z again h hc ht hp (fun hg hz b hb hab => hq hg hz b (by omega) hab)
  | succ d ih =>
    intro j x z again hd h hc ht hp hq
    refine Ev.step (fun k => spec_l7Heights.l3.eq_2 ..) ?_
    have hzi := shr_bit h.z0 (j := i) (by omega)
    have hxl := h.lx
    by_cases e0 : bit z i
    · have e1 : (z / 2 ^ i % 2 == 1) = true := beq_iff_eq.2 e0
      simp only [hzi, e1]
      clear hzi e1
      simp (disch := omega) only [if_pos, if_neg, w64, rdn, rd0, tn, sc, Option.bind_some, ↓reduceIte, Bool.false_eq_true, Bool.true_eq_false]
      refine Ev.step (fun k => spec_l7Heights.j4.eq_2 ..) ?_
      have hb := bit_mod (G net i) (j := j) (by omega) (hA.1.2.2 i (by omega)).1
      have hzj := shr_bit h.z0 (j := j) (by omega)
      have er := spec_l6Rise_eq _ _ (hA.2.1.2.2.2.2 i (by omega)) (hA.2.1.2.2.2.2 j (by omega))
      have hrb := rise_le (G s i) (G s j)
      have hbi := h.bnd i hi
      have hcb := cnt_bd z s.length
      have m2 := Int.emod_two_eq (z / 2 ^ j)
      simp only [rdn, tn, hb, hzj, er, Option.bind_some]
      clear hb hzj er
      by_cases e2 : G net i / 2 ^ j % 2 = 1
      · by_cases e3 : bit z j
        · have e3' : z / 2 ^ j % 2 = 1 := e3
          simp (disch := omega) only [if_pos, if_neg, w64, rdn, rd0, tn, sc, Option.bind_some, ↓reduceIte, Bool.false_eq_true, Bool.true_eq_false]
          refine ih (j + 1) x z again (by omega) h hc ht hp (fun hg hz b hb hab => ?_)
          by_cases e : b = j
          · subst e; exact e3
          · exact hq hg hz b (by omega) hab
        · have e3' : z / 2 ^ j % 2 = 0 := by
            rcases m2 with h0 | h1
            · exact h0
            · exact absurd h1 e3
          obtain ⟨y, hy, y0, y1, hyb⟩ := or_bit h.z0 h.z1 (j := j) (by omega)
          have hs := sinv_more hA h hf hi (show j < s.length by omega) e2 e0 e3 y0 y1 hyb
          have hT := cnt_more e3 hyb s.length
          rw [if_pos (by omega)] at hT
          simp only [hy]
          clear hy
          simp (disch := omega) only [if_pos, if_neg, w64, rdn, rd0, tn, sc, Option.bind_some, ↓reduceIte, Bool.false_eq_true, Bool.true_eq_false]
          exact ih (j + 1) _ y true (by omega) hs (by omega) (fun _ => by omega) (fun hg => by cases hg) (fun hg => by cases hg)
      · simp (disch := omega) only [if_pos, if_neg, w64, rdn, rd0, tn, sc, Option.bind_some, ↓reduceIte, Bool.false_eq_true, Bool.true_eq_false]
        refine ih (j + 1) x z again (by omega) h hc ht hp (fun hg hz b hb hab => ?_)
        by_cases e : b = j
        · subst e; exact absurd hab e2
        · exact hq hg hz b (by omega) hab
    · have e1 : (z / 2 ^ i % 2 == 1) = false := beq_eq_false_iff_ne.2 e0
      simp only [hzi, e1]
      clear hzi e1
      simp (disch := omega) only [if_pos, if_neg, w64, rdn, rd0, tn, sc, Option.bind_some, ↓reduceIte, Bool.false_eq_true, Bool.true_eq_false]
      refine Ev.step (fun k => spec_l7Heights.j4.eq_2 ..) ?_
      simp (disch := omega) only [if_pos, if_neg, w64, rdn, rd0, tn, sc, Option.bind_some, ↓reduceIte, Bool.false_eq_true, Bool.true_eq_false]
      exact fin x z again h hc ht hp (fun hg hz => absurd hz e0)
theorem l7_l2 (net s : List Int) (hA : Asked net 3 s) (Old : Nat → Prop) (f : Nat) (hf : f < s.length) (r : List Int × Bool) (c0 : Int)
    (hT : ∀ x z, SInv net s Old f x z → c0 < cnt z s.length → Ev (fun k => spec_l7Heights.l1 k net s x z (f : Int) true) r)
    (hF : ∀ x z, SInv net s Old f x z → (∀ a, a < s.length → bit z a → ∀ b, b < s.length → adj net a b → bit z b) → Ev (fun k => spec_l7Heights.l1 k net s x z (f : Int) false) r) :
    ∀ (d i : Nat) (x : List Int) (z : Int) (again : Bool), i + d = s.length → SInv net s Old f x z → c0 ≤ cnt z s.length → (again = true → c0 < cnt z s.length) → (again = false → ∀ a, a < i → bit z a → ∀ b, b < s.length → adj net a b → bit z b) →
      Ev (fun k => spec_l7Heights.l2 k net s x z (f : Int) again (i : Int)) r := by
  intro d
  have h6 := asked6 hA
  have hl := hA.2.2
  induction d with
  | zero =>
    intro i x z again hd h hc ht hp
    refine Ev.step (fun k => spec_l7Heights.l2.eq_2 ..) ?_
    simp (disch := omega) only [if_pos, if_neg, w64, rdn, rd0, tn, sc, Option.bind_some, ↓reduceIte, Bool.false_eq_true, Bool.true_eq_false]
    cases again with
    | true => exact hT x z h (ht rfl)
    | false => exact hF x z h (fun a ha => hp rfl a (by omega))
  | succ d ih =>
    intro i x z again hd h hc ht hp
    refine Ev.step (fun k => spec_l7Heights.l2.eq_2 ..) ?_
    simp (disch := omega) only [if_pos, if_neg, w64, rdn, rd0, tn, sc, Option.bind_some, ↓reduceIte, Bool.false_eq_true, Bool.true_eq_false]
    exact l7_l3 net s hA Old f hf r c0 i (by omega) (fun x z again h1 h2 h3 h4 => ih (i + 1) x z again (by omega) h1 h2 h3 h4) s.length 0 x z again (by omega) h hc ht hp (fun _ _ b hb => by omega)
theorem l7_l1 (net s : List Int) (hA : Asked net 3 s) (Old : Nat → Prop) (f : Nat) (hf : f < s.length) (r : List Int × Bool)
    (hend : ∀ x z, SInv net s Old f x z → (∀ a, a < s.length → bit z a → ∀ b, b < s.length → adj net a b → bit z b) → Ev (fun k => spec_l7Heights.l0 k net s x z ((f + 1 : Nat) : Int)) r) :
    ∀ (d : Nat) (x : List Int) (z : Int), SInv net s Old f x z → (s.length : Int) - cnt z s.length ≤ d → Ev (fun k => spec_l7Heights.l1 k net s x z (f : Int) true) r := by
  intro d
  have h6 := asked6 hA
  have hl := hA.2.2
  have hF : ∀ x z, SInv net s Old f x z → (∀ a, a < s.length → bit z a → ∀ b, b < s.length → adj net a b → bit z b) → Ev (fun k => spec_l7Heights.l1 k net s x z (f : Int) false) r := by
    intro x z h hc
    refine Ev.step (fun k => spec_l7Heights.l1.eq_2 ..) ?_
    simp (disch := omega) only [if_pos, if_neg, w64, rdn, rd0, tn, sc, Option.bind_some, ↓reduceIte, Bool.false_eq_true, Bool.true_eq_false]
    exact hend x z h hc
  induction d with
  | zero =>
    intro x z h hd
    refine Ev.step (fun k => spec_l7Heights.l1.eq_2 ..) ?_
    simp (disch := omega) only [if_pos, if_neg, w64, rdn, rd0, tn, sc, Option.bind_some, ↓reduceIte, Bool.false_eq_true, Bool.true_eq_false]
    refine l7_l2 net s hA Old f hf r (cnt z s.length) (fun x' z' h' hc' => ?_) hF s.length 0 x z false (by omega) h (Int.le_refl _) (fun hg => by cases hg) (fun _ a ha => by omega)
    have := cnt_bd z' s.length
    omega
  | succ d ih =>
    intro x z h hd
    refine Ev.step (fun k => spec_l7Heights.l1.eq_2 ..) ?_
    simp (disch := omega) only [if_pos, if_neg, w64, rdn, rd0, tn, sc, Option.bind_some, ↓reduceIte, Bool.false_eq_true, Bool.true_eq_false]
    exact l7_l2 net s hA Old f hf r (cnt z s.length) (fun x' z' h' hc' => ih x' z' h' (by omega)) hF s.length 0 x z false (by omega) h (Int.le_refl _) (fun hg => by cases hg) (fun _ a ha => by omega)
theorem l7_l5 (net s x : List Int) (hA : Asked net 3 s) (hx : x.length = s.length) (hb : ∀ a, a < s.length → -100 ≤ G x a ∧ G x a ≤ 100) (i : Nat) (hi : i < s.length) (r : List Int × Bool)
    (hno : ¬ Heights net s (G x) → r = ([], false))
    (hnext : (∀ b, b < s.length → adj net i b → G x b = G x i + rise (G s i) (G s b)) → Ev (fun k => spec_l7Heights.l4 k net s x ((i + 1 : Nat) : Int)) r) :
    ∀ (d j : Nat), j + d = s.length → (∀ b, b < j → adj net i b → G x b = G x i + rise (G s i) (G s b)) → Ev (fun k => spec_l7Heights.l5 k net s x (i : Int) (j : Int)) r := by
  intro d
  have h6 := asked6 hA
  have hl := hA.2.2
  induction d with
  | zero =>
    intro j hd hp
    refine Ev.step (fun k => spec_l7Heights.l5.eq_2 ..) ?_
    simp (disch := omega) only [if_pos, if_neg, w64, rdn, rd0, tn, sc, Option.bind_some, ↓reduceIte, Bool.false_eq_true, Bool.true_eq_false]
    exact hnext (fun b hb hab => hp b (by omega) hab)
  | succ d ih =>
    intro j hd hp
    refine Ev.step (fun k => spec_l7Heights.l5.eq_2 ..) ?_
    have hbt := bit_mod (G net i) (j := j) (by omega) (hA.1.2.2 i (by omega)).1
    have er := spec_l6Rise_eq _ _ (hA.2.1.2.2.2.2 i (by omega)) (hA.2.1.2.2.2.2 j (by omega))
    have b1 := hb i hi
    have b2 := hb j (by omega)
    have hw : wrap64 (G x j - G x i) = G x j - G x i := w64 (by omega) (by omega)
    simp only [rdn, hbt, er, hw, Option.bind_some]
    clear hbt er hw
    by_cases e2 : G net i / 2 ^ j % 2 = 1
    · by_cases e3 : G x j - G x i = rise (G s i) (G s j)
      · simp (disch := omega) only [if_pos, if_neg, w64, rdn, rd0, tn, sc, Option.bind_some, ↓reduceIte, Bool.false_eq_true, Bool.true_eq_false]
        refine ih (j + 1) (by omega) (fun b hb' hab => ?_)
        by_cases e : b = j
        · subst e; omega
        · exact hp b (by omega) hab
      · simp (disch := omega) only [if_pos, if_neg, w64, rdn, rd0, tn, sc, Option.bind_some, ↓reduceIte, Bool.false_eq_true, Bool.true_eq_false]
        refine Ev.val (hno (fun hh => e3 ?_)).symm
        rw [hh i j hi (by omega) e2]; omega
    · simp (disch := omega) only [if_pos, if_neg, w64, rdn, rd0, tn, sc, Option.bind_some, ↓reduceIte, Bool.false_eq_true, Bool.true_eq_false]
      refine ih (j + 1) (by omega) (fun b hb' hab => ?_)
      by_cases e : b = j
      · subst e; exact absurd hab e2
      · exact hp b (by omega) hab
theorem l7_l4 (net s x : List Int) (hA : Asked net 3 s) (hx : x.length = s.length) (hb : ∀ a, a < s.length → -100 ≤ G x a ∧ G x a ≤ 100) (r : List Int × Bool)
    (hno : ¬ Heights net s (G x) → r = ([], false)) (hyes : Heights net s (G x) → r = (x, true)) :
    ∀ (d i : Nat), i + d = s.length → (∀ a b, a < i → b < s.length → adj net a b → G x b = G x a + rise (G s a) (G s b)) → Ev (fun k => spec_l7Heights.l4 k net s x (i : Int)) r := by
  intro d
  have h6 := asked6 hA
  have hl := hA.2.2
  induction d with
  | zero =>
    intro i hd hp
    refine Ev.step (fun k => spec_l7Heights.l4.eq_2 ..) ?_
    simp (disch := omega) only [if_pos, if_neg, w64, rdn, rd0, tn, sc, Option.bind_some, ↓reduceIte, Bool.false_eq_true, Bool.true_eq_false]
    exact Ev.val (hyes (fun a b ha hb' hab => hp a b (by omega) hb' hab)).symm
  | succ d ih =>
    intro i hd hp
    refine Ev.step (fun k => spec_l7Heights.l4.eq_2 ..) ?_
    simp (disch := omega) only [if_pos, if_neg, w64, rdn, rd0, tn, sc, Option.bind_some, ↓reduceIte, Bool.false_eq_true, Bool.true_eq_false]
    refine l7_l5 net s x hA hx hb i (by omega) r hno (fun hall => ih (i + 1) (by omega) (fun a b ha hb' hab => ?_)) s.length 0 (by omega) (fun b hb' => by omega)
    by_cases e : a = i
    · subst e; exact hall b hb' hab
    · exact hp a b (by omega) hb' hab
structure PInv (net s : List Int) (f : Nat) (x : List Int) (z : Int) : Prop where
  lx : x.length = s.length
  z0 : 0 ≤ z
  z1 : z < 64
  zer : ∀ a, a < s.length → ¬ bit z a → G x a = 0
  upf : ∀ a, a < s.length → a < f → bit z a
  bnd : ∀ a, a < s.length → - cnt z s.length ≤ G x a ∧ G x a ≤ cnt z s.length
  ocl : ∀ a b, a < s.length → b < s.length → bit z a → adj net a b → bit z b
  odf : ∀ g, Heights net s g → ∀ a b, a < s.length → b < s.length → bit z a → adj net a b → G x b - G x a = g b - g a
  onm : ∀ a, a < s.length → bit z a → Least net s.length a → G x a = 0
theorem l7_l0 (net s : List Int) (hA : Asked net 3 s) : ∀ (d f : Nat) (x : List Int) (z : Int), f + d = s.length → PInv net s f x z → Ev (fun k => spec_l7Heights.l0 k net s x z (f : Int)) (heightRow net s) := by
  intro d
  have h6 := asked6 hA
  have hl := hA.2.2
  induction d with
  | zero =>
    intro f x z hd h
    refine Ev.step (fun k => spec_l7Heights.l0.eq_2 ..) ?_
    simp (disch := omega) only [if_pos, if_neg, w64, rdn, rd0, tn, sc, Option.bind_some, ↓reduceIte, Bool.false_eq_true, Bool.true_eq_false]
    refine l7_l4 net s x hA h.lx (fun a ha => by have := h.bnd a ha; have := cnt_bd z s.length; omega) _ (fun hn => heightRow_no (fun g => ?_)) (fun hh => ?_) s.length 0 (by omega) (fun a b ha => by omega)
    · obtain ⟨_, g, hg⟩ := g
      exact hn (fun a b ha hb hab => by have := h.odf g hg a b ha hb (h.upf a ha (by omega)) hab; have := hg a b ha hb hab; omega)
    · exact heightRow_eq hA h.lx ⟨hh, fun i hi hls => h.onm i hi (h.upf i hi (by omega)) hls⟩
  | succ d ih =>
    intro f x z hd h
    refine Ev.step (fun k => spec_l7Heights.l0.eq_2 ..) ?_
    have hzf := shr_bit h.z0 (j := f) (by omega)
    simp only [hzf]
    clear hzf
    by_cases e0 : bit z f
    · have e0' : z / 2 ^ f % 2 = 1 := e0
      simp (disch := omega) only [if_pos, if_neg, w64, rdn, rd0, tn, sc, Option.bind_some, ↓reduceIte, Bool.false_eq_true, Bool.true_eq_false]
      refine ih (f + 1) x z (by omega) ⟨h.lx, h.z0, h.z1, h.zer, fun a ha haf => ?_, h.bnd, h.ocl, h.odf, h.onm⟩
      by_cases e : a = f
      · subst e; exact e0
      · exact h.upf a ha (by omega)
    · have e0' : ¬ z / 2 ^ f % 2 = 1 := e0
      obtain ⟨y, hy, y0, y1, hyb⟩ := or_bit h.z0 h.z1 (j := f) (by omega)
      have hT := cnt_more e0 hyb s.length
      rw [if_pos (by omega)] at hT
      have hcb := cnt_bd y s.length
      have hold : ∀ a, bit z a → a ≠ f := fun a hab e => by subst e; exact e0 hab
      simp only [hy]
      clear hy
      simp (disch := omega) only [if_pos, if_neg, w64, rdn, rd0, tn, sc, Option.bind_some, ↓reduceIte, Bool.false_eq_true, Bool.true_eq_false]
      have hS : SInv net s (bit z) f x y := by
        constructor
        · exact h.lx
        · exact y0
        · exact y1
        · intro a ha hab
          rcases (hyb a).1 hab with hz | rfl
          · exact Or.inl hz
          · exact Or.inr ⟨e0, Nat.le_refl _, WayTo.refl _ _ _, fun g _ => by rw [h.zer a ha e0]; omega⟩
        · intro a ha ho; exact (hyb a).2 (Or.inl ho)
        · intro a ha hn; exact h.zer a ha (fun hz => hn ((hyb a).2 (Or.inl hz)))
        · intro a ha haf
          by_cases e : a = f
          · exact (hyb a).2 (Or.inr e)
          · exact (hyb a).2 (Or.inl (h.upf a ha (by omega)))
        · exact h.zer f (by omega) e0
        · intro a ha; have := h.bnd a ha; omega
        · exact h.ocl
        · exact h.odf
        · exact h.onm
      refine l7_l1 net s hA (bit z) f (by omega) _ (fun x' z' h' hc' => ?_) s.length x y hS (by omega)
      refine ih (f + 1) x' z' (by omega) ⟨h'.lx, h'.z0, h'.z1, h'.zer, fun a ha haf => h'.upf a ha (by omega), h'.bnd, fun a b ha hb hab hadj => hc' a ha hab b hb hadj, fun g hg a b ha hb hab hadj => ?_, fun a ha hab hls => ?_⟩
      · rcases h'.ent a ha hab with ho | ⟨c1, c2, c3, c4⟩
        · exact h'.odf g hg a b ha hb ho hadj
        · rcases h'.ent b hb (hc' a ha hab b hb hadj) with ho | ⟨d1, d2, d3, d4⟩
          · exact absurd (h'.ocl b a hb ha ho ((adj_sym hA.1 (by omega) (by omega)).1 hadj)) c1
          · rw [c4 g hg, d4 g hg]; omega
      · rcases h'.ent a ha hab with ho | ⟨c1, c2, c3, c4⟩
        · exact h'.onm a ha ho hls
        · have hle := hls f (c3.symm (net_symm hA.1 hA.2.2.symm))
          obtain rfl : a = f := by omega
          exact h'.xf
theorem spec_l7Heights_ev (net s : List Int) (hA : Asked net 3 s) : Ev (fun k => spec_l7Heights.f k net s) (heightRow net s) := by
  unfold spec_l7Heights.f
  have h6 := asked6 hA
  have hl := hA.2.2
  have h0 : ∀ a, ¬ bit 0 a := fun a h => by unfold bit at h; simp at h
  simp (disch := omega) only [if_pos, if_neg, w64, rdn, rd0, tn, sc, Option.bind_some, ↓reduceIte, Bool.false_eq_true, Bool.true_eq_false]
  rw [replicate_mk, hl]
  refine l7_l0 net s hA s.length 0 _ 0 (by omega) ⟨mk_length _ _, by omega, by omega, fun a ha _ => G_mk _ ha, fun a ha h => by omega, fun a ha => ?_, fun a b ha hb hab => absurd hab (h0 a), fun g hg a b ha hb hab => absurd hab (h0 a), fun a ha hab => absurd hab (h0 a)⟩
  rw [G_mk _ ha]; have := cnt_bd 0 s.length; omega

theorem spec_FlatOk_ev (net s : List Int) (hn : net.length ≤ 1048576) (hs : s.length ≤ 1048576) : Ev (fun k => spec_FlatOk.f k net s) (heightRow net s).2 := by
  unfold spec_FlatOk.f
  refine Ev.bind (spec_l3Ok_ev net s 3 hn hs) ?_
  by_cases h : Asked net 3 s
  · simp only [h, decide_true]
    simp (disch := omega) only [if_pos, if_neg, w64, rdn, rd0, tn, sc, Option.bind_some, ↓reduceIte, Bool.false_eq_true, Bool.true_eq_false]
    refine Ev.bind (spec_l7Heights_ev net s h) ?_
    exact Ev.now _
  · simp only [h, decide_false]
    rw [heightRow_no (fun g => h g.1)]
    simp (disch := omega) only [if_pos, if_neg, w64, rdn, rd0, tn, sc, Option.bind_some, ↓reduceIte, Bool.false_eq_true, Bool.true_eq_false]
    exact Ev.now _

-- needs Turn
theorem spec_l5Step_l1 (net s x : List Int) (h : Asked net 3 s) (i : Nat) (hi : i < s.length) (r : List Int) (hx : x.length = i)
    (hend : Ev (fun k => spec_l5Step.l0 k net s (x ++ [if Goes net s i then (G s i + 1) % 3 else G s i]) ((i + 1 : Nat) : Int)) r) :
    ∀ (d j : Nat), s.length - j = d → j ≤ s.length →
      Ev (fun k => spec_l5Step.l1 k net s x (i : Int) ((G s i + 1) % 3) (if GoesTo net s i j then (G s i + 1) % 3 else G s i) (j : Int)) r := by
  intro d
  have h6 := asked6 h
  have hl := h.2.2
  induction d with
  | zero =>
    intro j hd hj
    refine Ev.step (fun k => spec_l5Step.l1.eq_2 ..) ?_
    have e : (GoesTo net s i j) = (Goes net s i) := by unfold GoesTo Goes; rw [show j = s.length from by omega]
    simp only [e]
    simp (disch := omega) only [if_pos, if_neg, w64, rdn, rd0, tn, sc, Option.bind_some, ↓reduceIte, Bool.false_eq_true, Bool.true_eq_false]
    exact hend
  | succ d ih =>
    intro j hd hj
    refine Ev.step (fun k => spec_l5Step.l1.eq_2 ..) ?_
    have hb := bit_mod (G net i) (j := j) (by omega) (h.1.2.2 i (by omega)).1
    have hn := ih (j + 1) (by omega) (by omega)
    simp only [rdn, hb]
    clear hb
    by_cases e1 : G net i / 2 ^ j % 2 = 1
    · by_cases e2 : G s j = (G s i + 1) % 3
      · rw [if_pos (goesTo_succ.2 (Or.inr ⟨e1, e2⟩))] at hn
        simp (disch := omega) only [if_pos, if_neg, w64, rdn, rd0, tn, sc, Option.bind_some, ↓reduceIte, Bool.false_eq_true, Bool.true_eq_false]
        exact hn
      · have e3 : GoesTo net s i (j + 1) ↔ GoesTo net s i j := by rw [goesTo_succ]; simp [e2]
        simp only [e3] at hn
        simp (disch := omega) only [if_pos, if_neg, w64, rdn, rd0, tn, sc, Option.bind_some, ↓reduceIte, Bool.false_eq_true, Bool.true_eq_false]
        exact hn
    · have e3 : GoesTo net s i (j + 1) ↔ GoesTo net s i j := by rw [goesTo_succ]; simp [adj, e1]
      simp only [e3] at hn
      simp (disch := omega) only [if_pos, if_neg, w64, rdn, rd0, tn, sc, Option.bind_some, ↓reduceIte, Bool.false_eq_true, Bool.true_eq_false]
      exact hn
theorem spec_l5Step_l0 (net s : List Int) (h : Asked net 3 s) : ∀ (d i : Nat), s.length - i = d → i ≤ s.length →
    Ev (fun k => spec_l5Step.l0 k net s (mk i (fun i => if Goes net s i then (G s i + 1) % 3 else G s i)) (i : Int)) (turn net s) := by
  intro d
  have h6 := asked6 h
  induction d with
  | zero =>
    intro i hd hi
    refine Ev.step (fun k => spec_l5Step.l0.eq_2 ..) ?_
    have : i = s.length := by omega
    simp (disch := omega) only [if_pos, if_neg, w64, rdn, rd0, tn, sc, Option.bind_some, ↓reduceIte, Bool.false_eq_true, Bool.true_eq_false]
    exact Ev.val (by rw [this]; rfl)
  | succ d ih =>
    intro i hd hi
    refine Ev.step (fun k => spec_l5Step.l0.eq_2 ..) ?_
    have hn := ih (i + 1) (by omega) (by omega)
    rw [mk_succ] at hn
    have hb := h.2.1.2.2.2.2 i (by omega)
    have e1 : Int.tmod (wrap64 (G s i + 1)) 3 = (G s i + 1) % 3 := by rw [w64 (by omega) (by omega), tmod_nn (by omega)]
    simp only [rdn, e1]
    clear e1
    simp (disch := omega) only [if_pos, if_neg, w64, rdn, rd0, tn, sc, Option.bind_some, ↓reduceIte, Bool.false_eq_true, Bool.true_eq_false]
    have e0 : ¬ GoesTo net s i 0 := goesTo_zero
    have h1 := spec_l5Step_l1 net s _ h i (by omega) _ (mk_length _ _) hn _ 0 rfl (by omega)
    rw [if_neg e0] at h1
    exact h1
theorem spec_l5Step_ev (net s : List Int) (h : Asked net 3 s) : Ev (fun k => spec_l5Step.f k net s) (turn net s) := by
  unfold spec_l5Step.f
  exact spec_l5Step_l0 net s h _ 0 rfl (by omega)

theorem spec_l3Same_l0 (a b : List Int) (hl : a.length ≤ 1048576) (hab : a.length = b.length) : ∀ (d : Nat) (i : Nat), a.length - i = d → i ≤ a.length → (∀ j, j < i → G a j = G b j) → Ev (fun k => spec_l3Same.l0 k a b (i : Int)) (decide (a = b)) := by
  intro d
  induction d with
  | zero =>
    intro i hd hi hj
    refine Ev.step (fun k => spec_l3Same.l0.eq_2 ..) ?_
    simp (disch := omega) only [if_pos, if_neg, w64, rdn, rd0, tn, sc, Option.bind_some, ↓reduceIte, Bool.false_eq_true, Bool.true_eq_false]
    have e : a = b := ext hab (fun j h => hj j (by omega))
    exact Ev.val (by simp [e])
  | succ d ih =>
    intro i hd hi hj
    refine Ev.step (fun k => spec_l3Same.l0.eq_2 ..) ?_
    by_cases e : G a i = G b i
    · simp (disch := omega) only [if_pos, if_neg, w64, rdn, rd0, tn, sc, Option.bind_some, ↓reduceIte, Bool.false_eq_true, Bool.true_eq_false]
      refine ih _ (by omega) (by omega) ?_
      intro j hji
      by_cases e' : j = i
      · subst e'; exact e
      · exact hj j (by omega)
    · simp (disch := omega) only [if_pos, if_neg, w64, rdn, rd0, tn, sc, Option.bind_some, ↓reduceIte, Bool.false_eq_true, Bool.true_eq_false]
      have : a ≠ b := fun h => e (by rw [h])
      exact Ev.val (by simp [this])
theorem spec_l3Same_ev (a b : List Int) (hl : a.length ≤ 1048576) (hab : a.length = b.length) : Ev (fun k => spec_l3Same.f k a b) (decide (a = b)) := by
  unfold spec_l3Same.f
  exact spec_l3Same_l0 a b hl hab _ 0 rfl (by omega) (fun j h => by omega)

-- needs Stand
theorem spec_StandsAt_l0 (net s : List Int) (h : Asked net 3 s) (t : Nat) (ht : StandsP net s t) (h30 : t ≤ 30) : ∀ (d n : Nat), t - n = d → n ≤ t →
    Ev (fun k => spec_StandsAt.l0 k net (turnN net s n) (n : Int)) (t : Int) := by
  intro d
  have h6 := asked6 h
  induction d with
  | zero =>
    intro n hd hn
    have e : n = t := by omega
    subst e
    refine Ev.step (fun k => spec_StandsAt.l0.eq_2 ..) ?_
    refine Ev.bind (spec_l5Step_ev net _ (turnN_ok h n)) ?_
    refine Ev.bind (spec_l3Same_ev _ _ (by rw [turn_length, turnN_length]; omega) (turn_length _ _)) ?_
    have hst : turn net (turnN net s n) = turnN net s n := ht.1
    simp only [hst, decide_true, if_true]
    exact Ev.now _
  | succ d ih =>
    intro n hd hn
    refine Ev.step (fun k => spec_StandsAt.l0.eq_2 ..) ?_
    refine Ev.bind (spec_l5Step_ev net _ (turnN_ok h n)) ?_
    refine Ev.bind (spec_l3Same_ev _ _ (by rw [turn_length, turnN_length]; omega) (turn_length _ _)) ?_
    have hst : ¬ turn net (turnN net s n) = turnN net s n := ht.2 n (by omega)
    simp only [hst, decide_false, Bool.false_eq_true, if_false]
    refine Ev.bind (spec_l5Step_ev net _ (turnN_ok h n)) ?_
    have hw : wrap64 ((n : Int) + 1) = ((n + 1 : Nat) : Int) := by rw [w64 (by omega) (by omega)]; rfl
    simp only [hw]
    exact ih (n + 1) (by omega) (by omega)
theorem spec_StandsAt_ev (net s : List Int) (hn : net.length ≤ 1048576) (hs : s.length ≤ 1048576) : Ev (fun k => spec_StandsAt.f k net s) (standsAt net s) := by
  unfold spec_StandsAt.f
  refine Ev.bind (spec_FlatOk_ev net s hn hs) ?_
  by_cases h : Asked net 3 s ∧ Flat net s
  · have e := (heightRow_flat net s).2 h
    obtain ⟨t, h30, ht⟩ := stands_exists h.1 h.2
    rw [standsAt_eq h.1 ht]
    have h6 := asked6 h.1
    have h0 : ([] : List Int).length = 0 := rfl
    simp only [e, if_true, Option.bind_some, h0, List.nil_append]
    have hx := spec_StandsAt_l0 net s h.1 t ht h30 _ 0 rfl (by omega)
    simp (disch := omega) only [if_pos, if_neg, w64, rdn, rd0, tn, sc, Option.bind_some, ↓reduceIte, Bool.false_eq_true, Bool.true_eq_false]
    exact hx
  · have e : (heightRow net s).2 = false := by
      cases hb : (heightRow net s).2
      · rfl
      · exact absurd ((heightRow_flat net s).1 hb) h
    simp only [e, Bool.false_eq_true, if_false]
    rw [standsAt_no (fun x => h ⟨x.1, (flat_stands x.1).2 x.2⟩)]
    exact Ev.now _

theorem impl_NetOk_l1 (l : List Int) (h6 : l.length ≤ 6) (i : Nat) (hi : i < l.length) (r : Bool)
    (hbad : ∀ k, k < l.length → ¬ (adj l i k ↔ adj l k i) → r = false)
    (hgood : (∀ k, k < l.length → (adj l i k ↔ adj l k i)) → Ev (fun k => impl_NetOk.l0 k l l (l.length : Int) ((i + 1 : Nat) : Int)) r) :
    ∀ (d : Nat) (j : Nat), l.length - j = d → j ≤ l.length → (∀ k, k < j → (adj l i k ↔ adj l k i)) →
      Ev (fun k => impl_NetOk.l1 k l (i : Int) (G l i) l (l.length : Int) (i : Int) (l.length : Int) (j : Int)) r := by
  intro d
  induction d with
  | zero =>
    intro j hd hj hk
    refine Ev.step (fun k => impl_NetOk.l1.eq_2 ..) ?_
    simp (disch := omega) only [if_pos, if_neg, w64, rdn, rd0, tn, sc, Option.bind_some, ↓reduceIte, Bool.false_eq_true, Bool.true_eq_false]
    exact hgood (fun k hkl => hk k (by omega))
  | succ d ih =>
    intro j hd hj hk
    refine Ev.step (fun k => impl_NetOk.l1.eq_2 ..) ?_
    have b1 := bit_and (G l i) (j := j) (by omega)
    have b2 := bit_and (G l j) (j := i) (by omega)
    have m1 := Int.emod_two_eq (G l i / 2 ^ j)
    have m2 := Int.emod_two_eq (G l j / 2 ^ i)
    by_cases e : adj l i j ↔ adj l j i
    · have e' : G l i / 2 ^ j % 2 = G l j / 2 ^ i % 2 := by
        unfold adj at e
        by_cases c : G l i / 2 ^ j % 2 = 1
        · rw [c, e.1 c]
        · have c2 := fun h => c (e.2 h)
          omega
      simp only [rdn, b1, b2]
      simp (disch := omega) only [if_pos, if_neg, w64, rdn, rd0, tn, sc, Option.bind_some, ↓reduceIte, Bool.false_eq_true, Bool.true_eq_false]
      refine ih _ (by omega) (by omega) ?_
      intro k hkj
      by_cases e' : k = j
      · subst e'; exact e
      · exact hk k (by omega)
    · have e' : ¬ G l i / 2 ^ j % 2 = G l j / 2 ^ i % 2 := by
        intro h
        apply e
        unfold adj
        rw [h]
      simp only [rdn, b1, b2]
      simp (disch := omega) only [if_pos, if_neg, w64, rdn, rd0, tn, sc, Option.bind_some, ↓reduceIte, Bool.false_eq_true, Bool.true_eq_false]
      exact Ev.val (hbad j (by omega) e).symm
theorem impl_NetOk_l0 (l : List Int) (h1 : 1 ≤ l.length) (h6 : l.length ≤ 6) : ∀ (d : Nat) (i : Nat), l.length - i = d → i ≤ l.length →
    (∀ j, j < i → (0 ≤ G l j ∧ G l j < 2 ^ l.length ∧ ¬ adj l j j ∧ ∀ k, k < l.length → (adj l j k ↔ adj l k j))) → Ev (fun k => impl_NetOk.l0 k l l (l.length : Int) (i : Int)) (decide (NetP l)) := by
  intro d
  induction d with
  | zero =>
    intro i hd hi hj
    refine Ev.step (fun k => impl_NetOk.l0.eq_2 ..) ?_
    simp (disch := omega) only [if_pos, if_neg, w64, rdn, rd0, tn, sc, Option.bind_some, ↓reduceIte, Bool.false_eq_true, Bool.true_eq_false]
    have : NetP l := ⟨h1, h6, fun j h => hj j (by omega)⟩
    exact Ev.val (by simp [this])
  | succ d ih =>
    intro i hd hi hj
    refine Ev.step (fun k => impl_NetOk.l0.eq_2 ..) ?_
    have hs := shl1 (n := l.length) (by omega)
    have hb := bit_and (G l i) (j := i) (by omega)
    simp only [rdn, hs, hb]
    have bad : ¬ (0 ≤ G l i ∧ G l i < 2 ^ l.length ∧ ¬ adj l i i) → decide (NetP l) = false := by
      intro h
      have : ¬ NetP l := fun p => h ⟨(p.2.2 i (by omega)).1, (p.2.2 i (by omega)).2.1, (p.2.2 i (by omega)).2.2.1⟩
      simp [this]
    by_cases e0 : G l i < 0
    · simp (disch := omega) only [if_pos, if_neg, w64, rdn, rd0, tn, sc, Option.bind_some, ↓reduceIte, Bool.false_eq_true, Bool.true_eq_false]
      refine Ev.step (fun k => impl_NetOk.j2.eq_2 ..) ?_
      simp (disch := omega) only [if_pos, if_neg, w64, rdn, rd0, tn, sc, Option.bind_some, ↓reduceIte, Bool.false_eq_true, Bool.true_eq_false]
      exact Ev.val (bad (by omega)).symm
    · by_cases e1 : G l i ≥ 2 ^ l.length
      · simp (disch := omega) only [if_pos, if_neg, w64, rdn, rd0, tn, sc, Option.bind_some, ↓reduceIte, Bool.false_eq_true, Bool.true_eq_false]
        refine Ev.step (fun k => impl_NetOk.j2.eq_2 ..) ?_
        simp (disch := omega) only [if_pos, if_neg, w64, rdn, rd0, tn, sc, Option.bind_some, ↓reduceIte, Bool.false_eq_true, Bool.true_eq_false]
        exact Ev.val (bad (by omega)).symm
      · simp (disch := omega) only [if_pos, if_neg, w64, rdn, rd0, tn, sc, Option.bind_some, ↓reduceIte, Bool.false_eq_true, Bool.true_eq_false]
        refine Ev.step (fun k => impl_NetOk.j2.eq_2 ..) ?_
        by_cases e2 : G l i / 2 ^ i % 2 = 1
        · have e3 : (G l i / 2 ^ i % 2 == 1) = true := by simp [e2]
          simp only [e3]
          simp (disch := omega) only [if_pos, if_neg, w64, rdn, rd0, tn, sc, Option.bind_some, ↓reduceIte, Bool.false_eq_true, Bool.true_eq_false]
          exact Ev.val (bad (fun h => h.2.2 e2)).symm
        · have e3 : (G l i / 2 ^ i % 2 == 1) = false := by simp [e2]
          simp only [e3]
          simp (disch := omega) only [if_pos, if_neg, w64, rdn, rd0, tn, sc, Option.bind_some, ↓reduceIte, Bool.false_eq_true, Bool.true_eq_false]
          refine impl_NetOk_l1 l h6 i (by omega) _ ?_ ?_ _ 0 rfl (by omega) (fun k h => by omega)
          · intro k hk hn
            have : ¬ NetP l := fun p => hn ((p.2.2 i (by omega)).2.2.2 k hk)
            simp [this]
          · intro hall
            refine ih _ (by omega) (by omega) ?_
            intro j hji
            by_cases e' : j = i
            · subst e'; exact ⟨by omega, by omega, e2, hall⟩
            · exact hj j (by omega)
theorem impl_NetOk_ev (l : List Int) (hl : l.length ≤ 1048576) : Ev (fun k => impl_NetOk.f k l) (decide (NetP l)) := by
  unfold impl_NetOk.f
  by_cases h1 : l.length < 1
  · simp (disch := omega) only [if_pos, if_neg, w64, rdn, rd0, tn, sc, Option.bind_some, ↓reduceIte, Bool.false_eq_true, Bool.true_eq_false]
    refine Ev.step (fun k => impl_NetOk.j0.eq_2 ..) ?_
    simp (disch := omega) only [if_pos, if_neg, w64, rdn, rd0, tn, sc, Option.bind_some, ↓reduceIte, Bool.false_eq_true, Bool.true_eq_false]
    have : ¬ NetP l := fun p => by have := p.1; omega
    exact Ev.val (by simp [this])
  · simp (disch := omega) only [if_pos, if_neg, w64, rdn, rd0, tn, sc, Option.bind_some, ↓reduceIte, Bool.false_eq_true, Bool.true_eq_false]
    refine Ev.step (fun k => impl_NetOk.j0.eq_2 ..) ?_
    by_cases h6 : l.length > 6
    · have : decide ((l.length : Int) > 6) = true := by simp; omega
      simp only [this]
      simp (disch := omega) only [if_pos, if_neg, w64, rdn, rd0, tn, sc, Option.bind_some, ↓reduceIte, Bool.false_eq_true, Bool.true_eq_false]
      have : ¬ NetP l := fun p => by have := p.2.1; omega
      exact Ev.val (by simp [this])
    · have : decide ((l.length : Int) > 6) = false := by simp; omega
      simp only [this]
      simp (disch := omega) only [if_pos, if_neg, w64, rdn, rd0, tn, sc, Option.bind_some, ↓reduceIte, Bool.false_eq_true, Bool.true_eq_false]
      exact impl_NetOk_l0 l (by omega) (by omega) _ 0 rfl (by omega) (fun j h => by omega)

theorem impl_StateOk_l0 (a : Int) (l : List Int) (hl : l.length ≤ 1048576) : ∀ (d : Nat) (i : Nat), l.length - i = d → i ≤ l.length → (∀ j, j < i → 0 ≤ G l j ∧ G l j < a) → Ev (fun k => impl_StateOk.l0 k a l l (l.length : Int) (i : Int)) (decide (StateP a l)) := by
  intro d
  induction d with
  | zero =>
    intro i hd hi hj
    refine Ev.step (fun k => impl_StateOk.l0.eq_2 ..) ?_
    obtain rfl : i = l.length := by omega
    by_cases h3 : 3 ≤ a
    · by_cases h5 : a ≤ 5
      · by_cases h1 : 1 ≤ l.length
        · simp (disch := omega) only [if_pos, if_neg, w64, rdn, rd0, tn, sc, Option.bind_some, ↓reduceIte, Bool.false_eq_true, Bool.true_eq_false]
          refine Ev.val ?_
          rw [decide_eq_decide]
          unfold StateP
          constructor
          · intro e; exact ⟨h3, h5, h1, by omega, hj⟩
          · intro e; have := e.2.2.2.1; omega
        · simp (disch := omega) only [if_pos, if_neg, w64, rdn, rd0, tn, sc, Option.bind_some, ↓reduceIte, Bool.false_eq_true, Bool.true_eq_false]
          refine Ev.val ?_
          have : ¬ StateP a l := fun p => h1 p.2.2.1
          simp [this]
      · simp (disch := omega) only [if_pos, if_neg, w64, rdn, rd0, tn, sc, Option.bind_some, ↓reduceIte, Bool.false_eq_true, Bool.true_eq_false]
        refine Ev.val ?_
        have : ¬ StateP a l := fun p => h5 p.2.1
        simp [this]
    · simp (disch := omega) only [if_pos, if_neg, w64, rdn, rd0, tn, sc, Option.bind_some, ↓reduceIte, Bool.false_eq_true, Bool.true_eq_false]
      refine Ev.val ?_
      have : ¬ StateP a l := fun p => h3 p.1
      simp [this]
  | succ d ih =>
    intro i hd hi hj
    refine Ev.step (fun k => impl_StateOk.l0.eq_2 ..) ?_
    by_cases e0 : G l i < 0
    · simp (disch := omega) only [if_pos, if_neg, w64, rdn, rd0, tn, sc, Option.bind_some, ↓reduceIte, Bool.false_eq_true, Bool.true_eq_false]
      refine Ev.val ?_
      have : ¬ StateP a l := fun p => by have := p.2.2.2.2 i (by omega); omega
      simp [this]
    · by_cases e1 : G l i ≥ a
      · simp (disch := omega) only [if_pos, if_neg, w64, rdn, rd0, tn, sc, Option.bind_some, ↓reduceIte, Bool.false_eq_true, Bool.true_eq_false]
        refine Ev.val ?_
        have : ¬ StateP a l := fun p => by have := p.2.2.2.2 i (by omega); omega
        simp [this]
      · simp (disch := omega) only [if_pos, if_neg, w64, rdn, rd0, tn, sc, Option.bind_some, ↓reduceIte, Bool.false_eq_true, Bool.true_eq_false]
        refine ih (i + 1) (by omega) (by omega) ?_
        intro j hji
        by_cases e' : j = i
        · subst e'; omega
        · exact hj j (by omega)
theorem impl_StateOk_ev (a : Int) (l : List Int) (hl : l.length ≤ 1048576) : Ev (fun k => impl_StateOk.f k a l) (decide (StateP a l)) := by
  unfold impl_StateOk.f
  exact impl_StateOk_l0 a l hl _ 0 rfl (by omega) (fun j h => by omega)

theorem impl_asked_ev (net s : List Int) (kinds : Int) (hn : net.length ≤ 1048576) (hs : s.length ≤ 1048576) : Ev (fun k => impl_asked.f k net kinds s) (decide (Asked net kinds s)) := by
  unfold impl_asked.f
  refine Ev.bind (impl_NetOk_ev net hn) ?_
  by_cases h1 : NetP net
  · simp only [h1, decide_true]
    simp (disch := omega) only [if_pos, if_neg, w64, rdn, rd0, tn, sc, Option.bind_some, ↓reduceIte, Bool.false_eq_true, Bool.true_eq_false]
    refine Ev.bind (impl_StateOk_ev kinds s hs) ?_
    by_cases h2 : StateP kinds s
    · simp only [h2, decide_true]
      simp (disch := omega) only [if_pos, if_neg, w64, rdn, rd0, tn, sc, Option.bind_some, ↓reduceIte, Bool.false_eq_true, Bool.true_eq_false]
      refine Ev.val ?_
      rw [Bool.eq_iff_iff, beq_iff_eq, decide_eq_true_eq]
      unfold Asked
      constructor
      · intro h; exact ⟨h1, h2, by omega⟩
      · intro h; have := h.2.2; omega
    · simp only [h2, decide_false]
      simp (disch := omega) only [if_pos, if_neg, w64, rdn, rd0, tn, sc, Option.bind_some, ↓reduceIte, Bool.false_eq_true, Bool.true_eq_false]
      have : ¬ Asked net kinds s := fun h => h2 h.2.1
      exact Ev.val (by simp [this])
  · simp only [h1, decide_false]
    simp (disch := omega) only [if_pos, if_neg, w64, rdn, rd0, tn, sc, Option.bind_some, ↓reduceIte, Bool.false_eq_true, Bool.true_eq_false]
    have : ¬ Asked net kinds s := fun h => h1 h.1
    exact Ev.val (by simp [this])

theorem slices_Clone_eq (l : List Int) (h0 : 0 < l.length) (hl : l.length ≤ 1048576) : slices_Clone_int_int.f l = some l := by
  unfold slices_Clone_int_int.f
  have e : ([] : List Int).length = 0 := rfl
  simp only [Option.bind_some, e, List.nil_append]
  simp (disch := omega) only [if_pos, if_neg, w64, rdn, rd0, tn, sc, Option.bind_some, ↓reduceIte, Bool.false_eq_true, Bool.true_eq_false]

-- needs Turn
theorem impl_turnStep_l1 (net s : List Int) (h : Asked net 3 s) (i : Nat) (hi : i < s.length) (r : List Int)
    (hend : ∀ x : List Int, x.length = s.length → (∀ p, p < s.length → G x p = if p < i + 1 ∧ Goes net s p then (G s p + 1) % 3 else G s p) → Ev (fun k => impl_turnStep.l0 k net s x s (s.length : Int) ((i + 1 : Nat) : Int)) r) :
    ∀ (d j : Nat) (x : List Int), s.length - j = d → j ≤ s.length → x.length = s.length → (∀ p, p < s.length → p ≠ i → G x p = if p < i ∧ Goes net s p then (G s p + 1) % 3 else G s p) →
      G x i = (if GoesTo net s i j then (G s i + 1) % 3 else G s i) →
      Ev (fun k => impl_turnStep.l1 k net s x (i : Int) (G s i) s (s.length : Int) (i : Int) s (s.length : Int) (j : Int)) r := by
  intro d
  have h6 := asked6 h
  have hl := h.2.2
  induction d with
  | zero =>
    intro j x hd hj hx hp hi'
    refine Ev.step (fun k => impl_turnStep.l1.eq_2 ..) ?_
    simp (disch := omega) only [if_pos, if_neg, w64, rdn, rd0, tn, sc, Option.bind_some, ↓reduceIte, Bool.false_eq_true, Bool.true_eq_false]
    refine hend x hx (fun p hpl => ?_)
    by_cases e : p = i
    · subst e
      rw [hi', show j = s.length from by omega]
      by_cases g : Goes net s p
      · rw [if_pos (goesTo_all.2 g), if_pos ⟨by omega, g⟩]
      · rw [if_neg (fun hh => g (goesTo_all.1 hh)), if_neg (fun hh => g hh.2)]
    · rw [hp p hpl e]
      by_cases e2 : p < i
      · have : p < i + 1 := by omega
        simp only [e2, this]
      · have : ¬ p < i + 1 := by omega
        simp only [e2, this]
  | succ d ih =>
    intro j x hd hj hx hp hi'
    refine Ev.step (fun k => impl_turnStep.l1.eq_2 ..) ?_
    have hb := bit_and (G net i) (j := j) (by omega)
    have hbd := h.2.1.2.2.2.2 i (by omega)
    have e1 : Int.tmod (wrap64 (G s i + 1)) 3 = (G s i + 1) % 3 := by rw [w64 (by omega) (by omega), tmod_nn (by omega)]
    simp only [rdn, hb, e1]
    clear hb e1
    by_cases e1 : G net i / 2 ^ j % 2 = 1
    · by_cases e2 : G s j = (G s i + 1) % 3
      · simp (disch := omega) only [if_pos, if_neg, w64, rdn, rd0, tn, sc, Option.bind_some, ↓reduceIte, Bool.false_eq_true, Bool.true_eq_false]
        refine ih (j + 1) _ (by omega) (by omega) (by simp [hx]) ?_ ?_
        · intro p hpl hpi
          rw [G_set_ne _ hpi]; exact hp p hpl hpi
        · rw [G_set_self _ (by omega), if_pos (goesTo_succ.2 (Or.inr ⟨e1, e2⟩)), e2]
      · have e3 : GoesTo net s i (j + 1) ↔ GoesTo net s i j := by rw [goesTo_succ]; simp [e2]
        simp (disch := omega) only [if_pos, if_neg, w64, rdn, rd0, tn, sc, Option.bind_some, ↓reduceIte, Bool.false_eq_true, Bool.true_eq_false]
        refine ih (j + 1) _ (by omega) (by omega) hx hp ?_
        rw [hi']; simp only [e3]
    · have e3 : GoesTo net s i (j + 1) ↔ GoesTo net s i j := by rw [goesTo_succ]; simp [adj, e1]
      simp (disch := omega) only [if_pos, if_neg, w64, rdn, rd0, tn, sc, Option.bind_some, ↓reduceIte, Bool.false_eq_true, Bool.true_eq_false]
      refine ih (j + 1) _ (by omega) (by omega) hx hp ?_
      rw [hi']; simp only [e3]
theorem impl_turnStep_l0 (net s : List Int) (h : Asked net 3 s) : ∀ (d i : Nat) (x : List Int), s.length - i = d → i ≤ s.length → x.length = s.length →
    (∀ p, p < s.length → G x p = if p < i ∧ Goes net s p then (G s p + 1) % 3 else G s p) →
    Ev (fun k => impl_turnStep.l0 k net s x s (s.length : Int) (i : Int)) (turn net s) := by
  intro d
  have h6 := asked6 h
  induction d with
  | zero =>
    intro i x hd hi hx hp
    refine Ev.step (fun k => impl_turnStep.l0.eq_2 ..) ?_
    have : i = s.length := by omega
    simp (disch := omega) only [if_pos, if_neg, w64, rdn, rd0, tn, sc, Option.bind_some, ↓reduceIte, Bool.false_eq_true, Bool.true_eq_false]
    refine Ev.val (mk_eq_iff.2 ⟨hx, fun p hpl => ?_⟩)
    rw [hp p hpl]
    have : p < i := by omega
    simp only [this, true_and]
  | succ d ih =>
    intro i x hd hi hx hp
    refine Ev.step (fun k => impl_turnStep.l0.eq_2 ..) ?_
    simp (disch := omega) only [if_pos, if_neg, w64, rdn, rd0, tn, sc, Option.bind_some, ↓reduceIte, Bool.false_eq_true, Bool.true_eq_false]
    refine impl_turnStep_l1 net s h i (by omega) _ (fun y hy hq => ih (i + 1) y (by omega) (by omega) hy hq) _ 0 x rfl (by omega) hx (fun p hpl _ => hp p hpl) ?_
    rw [hp i (by omega), if_neg (by omega), if_neg goesTo_zero]
theorem impl_turnStep_ev (net s : List Int) (h : Asked net 3 s) : Ev (fun k => impl_turnStep.f k net s) (turn net s) := by
  unfold impl_turnStep.f
  have h6 := asked6 h
  have h1 := asked1 h
  rw [slices_Clone_eq s (by omega) (by omega)]
  simp only [Option.bind_some]
  exact impl_turnStep_l0 net s h _ 0 s rfl (by omega) rfl (fun p _ => by rw [if_neg (by omega)])

-- needs Stand
theorem numS_drop (q : Nat) {s : List Int} {d : Nat} (h : d < s.length) : numS q (s.drop d) = numS q (s.drop (d + 1)) * q + (G s d).toNat := by
  rw [List.drop_eq_getElem_cons h, G_of_lt h]; rfl
theorem numS_drop_lt {kinds : Int} {s : List Int} (h : StateP kinds s) (d : Nat) : numS kinds.toNat (s.drop d) < 15625 := by
  have h3 := h.1
  have h5 := h.2.1
  have h6 := h.2.2.2.1
  have h1 := numS_lt kinds.toNat (s.drop d) (fun i hi => by
    rw [List.length_drop] at hi
    have := h.2.2.2.2 (d + i) (by omega)
    rw [G_drop]; omega)
  have h2 : kinds.toNat ^ (s.drop d).length ≤ 5 ^ 6 := Nat.le_trans (Nat.pow_le_pow_right (by omega) (by rw [List.length_drop]; omega)) (Nat.pow_le_pow_left (by omega) 6)
  have h4 : (5 : Nat) ^ 6 = 15625 := by decide
  omega
theorem impl_NumberOf_l0 (kinds : Int) (s : List Int) (h : StateP kinds s) : ∀ (d : Nat) (x6 : Int), d ≤ s.length → x6 = (d : Int) - 1 →
    Ev (fun k => impl_NumberOf.l0 k kinds s ((numS kinds.toNat (s.drop d) : Nat) : Int) x6) ((numS kinds.toNat s : Nat) : Int) := by
  intro d
  have h3 := h.1
  have h5 := h.2.1
  have h6 := h.2.2.2.1
  induction d with
  | zero =>
    intro x6 hd hx
    refine Ev.step (fun k => impl_NumberOf.l0.eq_2 ..) ?_
    simp (disch := omega) only [if_pos, if_neg, w64, rdn, rd0, tn, sc, Option.bind_some, ↓reduceIte, Bool.false_eq_true, Bool.true_eq_false]
    rw [List.drop_zero]
    exact Ev.now _
  | succ d ih =>
    intro x6 hd hx
    obtain rfl : x6 = (d : Int) := by omega
    clear hx
    refine Ev.step (fun k => impl_NumberOf.l0.eq_2 ..) ?_
    have hb := h.2.2.2.2 d (by omega)
    have hlt := numS_drop_lt h (d + 1)
    have hlt2 := numS_drop_lt h d
    have hd2 := numS_drop kinds.toNat (show d < s.length by omega)
    have hk : ((kinds.toNat : Nat) : Int) = kinds := by omega
    have e1 : ((numS kinds.toNat (s.drop (d + 1)) : Nat) : Int) * kinds = ((numS kinds.toNat (s.drop (d + 1)) * kinds.toNat : Nat) : Int) := by rw [Int.natCast_mul, hk]
    have e2 : wrap64 (wrap64 (((numS kinds.toNat (s.drop (d + 1)) : Nat) : Int) * kinds) + G s d) = ((numS kinds.toNat (s.drop d) : Nat) : Int) := by
      rw [e1, w64 (n := ((numS kinds.toNat (s.drop (d + 1)) * kinds.toNat : Nat) : Int)) (by omega) (by omega), w64 (by omega) (by omega)]
      omega
    have e3 : wrap64 ((d : Int) - 1) = (d : Int) - 1 := w64 (by omega) (by omega)
    have hn := ih ((d : Int) - 1) (by omega) rfl
    simp only [rdn, e2, e3]
    clear e1 e2 e3 hd2 hlt hlt2
    simp (disch := omega) only [if_pos, if_neg, w64, rdn, rd0, tn, sc, Option.bind_some, ↓reduceIte, Bool.false_eq_true, Bool.true_eq_false]
    exact hn
theorem impl_NumberOf_ev (kinds : Int) (s : List Int) (h : StateP kinds s) : Ev (fun k => impl_NumberOf.f k kinds s) ((numS kinds.toNat s : Nat) : Int) := by
  unfold impl_NumberOf.f
  have h6 := h.2.2.2.1
  refine Ev.bind (impl_StateOk_ev kinds s (by omega)) ?_
  simp only [h, decide_true, if_true]
  have e : wrap64 ((s.length : Int) - 1) = (s.length : Int) - 1 := w64 (by omega) (by omega)
  simp only [e]
  have := impl_NumberOf_l0 kinds s h s.length ((s.length : Int) - 1) (Nat.le_refl _) rfl
  rw [List.drop_length] at this
  exact this

-- needs Stand
def seenOf (num : Nat → Int) : Nat → List Int
  | 0 => []
  | n + 1 => num n :: seenOf num n
theorem seenOf_length (num : Nat → Int) : ∀ n, (seenOf num n).length = n
  | 0 => rfl
  | n + 1 => by simp only [seenOf, List.length_cons, seenOf_length num n]
theorem idxR_some {num : Nat → Int} {v : Int} {i : Nat} : ∀ n, impl_TurnLoop.idxR (seenOf num n) v = some i → i < n ∧ num i = v
  | 0, h => by simp [seenOf, impl_TurnLoop.idxR] at h
  | n + 1, h => by
    unfold seenOf impl_TurnLoop.idxR at h
    by_cases e : v = num n
    · rw [if_pos e, seenOf_length] at h
      obtain rfl := Option.some.inj h
      exact ⟨by omega, e.symm⟩
    · rw [if_neg e] at h
      have := idxR_some n h
      exact ⟨by omega, this.2⟩
theorem idxR_none {num : Nat → Int} {v : Int} : ∀ n, impl_TurnLoop.idxR (seenOf num n) v = none → ∀ i, i < n → num i ≠ v
  | 0, _, i, hi => by omega
  | n + 1, h, i, hi => by
    unfold seenOf impl_TurnLoop.idxR at h
    by_cases e : v = num n
    · rw [if_pos e] at h; cases h
    · rw [if_neg e] at h
      by_cases g : i = n
      · subst g; exact fun x => e x.symm
      · exact idxR_none n h i (by omega)
theorem impl_TurnLoop_l0 (net s : List Int) (h : Asked net 3 s) (b L : Nat) (hl : IsLoop (turnN net s) b L) (hbl : b + L ≤ 15625) : ∀ (d n : Nat), b + L - n = d → n ≤ b + L →
    Ev (fun k => impl_TurnLoop.l0 k net (turnN net s n) (seenOf (fun i => ((numS 3 (turnN net s i) : Nat) : Int)) n)) ((b : Int), (L : Int)) := by
  intro d
  have hinj : ∀ i j, numS 3 (turnN net s i) = numS 3 (turnN net s j) → turnN net s i = turnN net s j := fun i j e =>
    numS_state_inj (k := 3) (turnN_ok h i).2.1 (turnN_ok h j).2.1 (by rw [turnN_length, turnN_length]) e
  have hL1 := hl.1
  induction d with
  | zero =>
    intro n hd hn
    refine Ev.step (fun k => impl_TurnLoop.l0.eq_2 ..) ?_
    have hA := turnN_ok h n
    have hlt := numS_bound hA.2.1
    refine Ev.bind (impl_NumberOf_ev 3 _ hA.2.1) ?_
    have hlt' : numS 3 (turnN net s n) < 15625 := hlt
    have hwf : (Lit.int .i64 ((numS (3 : Int).toNat (turnN net s n) : Nat) : Int)).wf = true := wf_i64.2 ⟨by omega, by omega⟩
    simp only [hwf, if_true]
    have en : n = b + L := by omega
    cases hi : impl_TurnLoop.idxR (seenOf (fun i => ((numS 3 (turnN net s i) : Nat) : Int)) n) ((numS (3 : Int).toNat (turnN net s n) : Nat) : Int) with
    | none =>
      have h1 := idxR_none n hi b (by omega)
      have h2 : turnN net s n = turnN net s b := by rw [en]; exact hl.2.1
      exact absurd (by show ((numS 3 (turnN net s b) : Nat) : Int) = ((numS 3 (turnN net s n) : Nat) : Int); rw [h2]) h1
    | some i =>
      obtain ⟨h1, h2⟩ := idxR_some n hi
      have h2' : numS 3 (turnN net s i) = numS 3 (turnN net s n) := by
        have : ((numS 3 (turnN net s i) : Nat) : Int) = ((numS 3 (turnN net s n) : Nat) : Int) := h2
        omega
      have h3 := hinj i n h2'
      rw [en, hl.2.1] at h3
      have hib : i = b := by
        rcases Nat.lt_trichotomy i b with x | x | x
        · exact absurd h3 (hl.2.2 i b x (by omega))
        · exact x
        · exact absurd h3.symm (hl.2.2 b i x (by omega))
      subst hib
      simp only [seenOf_length]
      refine Ev.val ?_
      rw [w64 (by omega) (by omega)]
      congr 1
      omega
  | succ d ih =>
    intro n hd hn
    refine Ev.step (fun k => impl_TurnLoop.l0.eq_2 ..) ?_
    have hA := turnN_ok h n
    have hlt := numS_bound hA.2.1
    refine Ev.bind (impl_NumberOf_ev 3 _ hA.2.1) ?_
    have hlt' : numS 3 (turnN net s n) < 15625 := hlt
    have hwf : (Lit.int .i64 ((numS (3 : Int).toNat (turnN net s n) : Nat) : Int)).wf = true := wf_i64.2 ⟨by omega, by omega⟩
    simp only [hwf, if_true]
    cases hi : impl_TurnLoop.idxR (seenOf (fun i => ((numS 3 (turnN net s i) : Nat) : Int)) n) ((numS (3 : Int).toNat (turnN net s n) : Nat) : Int) with
    | some i =>
      obtain ⟨h1, h2⟩ := idxR_some n hi
      have h2' : numS 3 (turnN net s i) = numS 3 (turnN net s n) := by
        have : ((numS 3 (turnN net s i) : Nat) : Int) = ((numS 3 (turnN net s n) : Nat) : Int) := h2
        omega
      exact absurd (hinj i n h2') (hl.2.2 i n h1 (by omega))
    | none =>
      simp only [seenOf_length]
      simp only [show n < 1000000 by omega, if_true]
      refine Ev.bind (impl_turnStep_ev net _ hA) ?_
      exact ih (n + 1) (by omega) (by omega)
theorem impl_TurnLoop_ev (net s : List Int) (hn : net.length ≤ 1048576) (hs : s.length ≤ 1048576) : Ev (fun k => impl_TurnLoop.f k net s) (turnLoop net s) := by
  unfold impl_TurnLoop.f
  refine Ev.bind (impl_asked_ev net s 3 hn hs) ?_
  by_cases h : Asked net 3 s
  · simp only [h, decide_true, if_true]
    obtain ⟨b, L, hl, hbl⟩ := turn_loop_exists h
    rw [turnLoop_eq h hl]
    exact impl_TurnLoop_l0 net s h b L hl hbl _ 0 rfl (by omega)
  · simp only [h, decide_false, Bool.false_eq_true, if_false]
    rw [turnLoop_no h]
    exact Ev.now _

-- needs Stand
theorem stands_turnLoop {net s : List Int} (h : Asked net 3 s) {b L : Nat} (hl : IsLoop (turnN net s) b L) : standsAt net s = if (L : Int) = 1 then (b : Int) else -1 := by
  by_cases e : L = 1
  · subst e
    rw [if_pos (show ((1 : Nat) : Int) = 1 from rfl)]
    exact standsAt_eq h (stands_loop.2 hl)
  · rw [if_neg (by omega)]
    refine standsAt_no ?_
    rintro ⟨_, t, ht⟩
    exact e (isLoop_unique hl (stands_loop.1 ht)).2
theorem impl_StandsAt_ev (net s : List Int) (hn : net.length ≤ 1048576) (hs : s.length ≤ 1048576) : Ev (fun k => impl_StandsAt.f k net s) (standsAt net s) := by
  unfold impl_StandsAt.f
  refine Ev.bind (impl_asked_ev net s 3 hn hs) ?_
  by_cases h : Asked net 3 s
  · simp only [h, decide_true, if_true]
    obtain ⟨b, L, hl, hbl⟩ := turn_loop_exists h
    refine Ev.bind (impl_TurnLoop_ev net s hn hs) ?_
    rw [turnLoop_eq h hl, stands_turnLoop h hl]
    by_cases e : (L : Int) = 1
    · simp only [e, if_true]
      exact Ev.now _
    · simp only [e, if_false]
      exact Ev.now _
  · simp only [h, decide_false, Bool.false_eq_true, if_false]
    rw [standsAt_no (fun x => h x.1)]
    exact Ev.now _

theorem FnExactStandsAt : laws_FnExactStandsAt.Pure := by
  intro net state _ _ _ _ _ _
  refine Ev.rounds (r := true) ?_
  unfold laws_FnExactStandsAt.f
  by_cases hnet : net.length ≤ 1048576
  rotate_left
  · simp (disch := omega) only [if_pos, if_neg, w64, rdn, rd0, tn, sc, Option.bind_some, ↓reduceIte, Bool.false_eq_true, Bool.true_eq_false]
    exact Ev.now _
  by_cases hstate : state.length ≤ 1048576
  rotate_left
  · simp (disch := omega) only [if_pos, if_neg, w64, rdn, rd0, tn, sc, Option.bind_some, ↓reduceIte, Bool.false_eq_true, Bool.true_eq_false]
    exact Ev.now _
  simp (disch := omega) only [if_pos, if_neg, w64, rdn, rd0, tn, sc, Option.bind_some, ↓reduceIte, Bool.false_eq_true, Bool.true_eq_false]
  refine Ev.bind (laws_toIntS_ev net hnet) ?_
  refine Ev.bind (laws_toIntS_ev state hstate) ?_
  refine Ev.bind (spec_StandsAt_ev net state hnet hstate) ?_
  refine Ev.bind (laws_toIntS_ev net hnet) ?_
  refine Ev.bind (laws_toIntS_ev state hstate) ?_
  refine Ev.bind (impl_StandsAt_ev net state hnet hstate) ?_
  simp only [bne_self_eq_false]
  simp (disch := omega) only [if_pos, if_neg, w64, rdn, rd0, tn, sc, Option.bind_some, ↓reduceIte, Bool.false_eq_true, Bool.true_eq_false]
  refine Ev.bind (laws_toIntS_ev net hnet) ?_
  refine Ev.bind (laws_eqIntS_self _ hnet) ?_
  simp (disch := omega) only [if_pos, if_neg, w64, rdn, rd0, tn, sc, Option.bind_some, ↓reduceIte, Bool.false_eq_true, Bool.true_eq_false]
  refine Ev.bind (laws_toIntS_ev state hstate) ?_
  refine Ev.bind (laws_eqIntS_self _ hstate) ?_
  simp (disch := omega) only [if_pos, if_neg, w64, rdn, rd0, tn, sc, Option.bind_some, ↓reduceIte, Bool.false_eq_true, Bool.true_eq_false]
  exact Ev.now _

end Go.Proofs.Ytbbafjmfdbjkaaa.Pure
