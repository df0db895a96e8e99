/- Proved: the statement FnBestTour, for every input, without further conditions. -/
import Derived.Test.YtkofidpgbmajdaaPFnBestTourx13
import Derived.Test.YtkofidpgbmajdaaBase
import Derived.Test.YtkofidpgbmajdaaBest
import Derived.Test.YtkofidpgbmajdaaTour
import Derived.Test.YtkofidpgbmajdaaTurn
namespace Go.Proofs.Ytkofidpgbmajdaa.Pure
open Go.RowKit Go.Proofs.Ytkofidpgbmajdaa.PFnBestTour Go.Proofs.YtkofidpgbmajdaaW.PrintWords Go.Proofs.YtkofidpgbmajdaaW.PrintLast Go.Proofs.Ytkofidpgbmajdaa.B Go.Proofs.Ytkofidpgbmajdaa.C
set_option linter.unusedSimpArgs false
set_option linter.unusedVariables false

theorem spec_l1In_eq (a b c : Int) : spec_l1In.f a b c = some (decide (b ≤ a ∧ a ≤ c)) := by
  unfold spec_l1In.f
  by_cases h : b ≤ a <;> simp [h]

theorem spec_StateOk_l0 (a : Int) (l : List Int) (hl : l.length ≤ 1048576) : ∀ (d : Nat) (i : Nat), l.length - i = d → i ≤ l.length → (∀ j, j < i → 0 ≤ G l j ∧ G l j < a) → Ev (fun k => spec_StateOk.l0 k a l (i : Int)) (decide (StateP a l)) := by
  intro d
  induction d with
  | zero =>
    intro i hd hi hj
    refine Ev.step (fun k => spec_StateOk.l0.eq_2 ..) ?_
    simp only [spec_l1In_eq, Option.bind_some]
    obtain rfl : i = l.length := by omega
    by_cases h : 3 ≤ a ∧ a ≤ 5
    · simp only [h, and_self, decide_true]
      simp (disch := omega) only [if_pos, if_neg, w64, rdn, rd0, tn, sc, Option.bind_some, ↓reduceIte, Bool.false_eq_true, Bool.true_eq_false]
      refine Ev.val ?_
      rw [decide_eq_decide]
      unfold StateP
      constructor
      · intro e; exact ⟨h.1, h.2, by omega, by omega, hj⟩
      · intro e; have := e.2.2.1; have := e.2.2.2.1; omega
    · simp only [h, decide_false]
      simp (disch := omega) only [if_pos, if_neg, w64, rdn, rd0, tn, sc, Option.bind_some, ↓reduceIte, Bool.false_eq_true, Bool.true_eq_false]
      refine Ev.val ?_
      have : ¬ StateP a l := fun p => h ⟨p.1, p.2.1⟩
      simp [this]
  | succ d ih =>
    intro i hd hi hj
    refine Ev.step (fun k => spec_StateOk.l0.eq_2 ..) ?_
    by_cases e0 : G l i < 0
    · simp (disch := omega) only [if_pos, if_neg, w64, rdn, rd0, tn, sc, Option.bind_some, ↓reduceIte, Bool.false_eq_true, Bool.true_eq_false]
      refine Ev.val ?_
      have : ¬ StateP a l := fun p => by have := p.2.2.2.2 i (by omega); omega
      simp [this]
    · by_cases e1 : G l i ≥ a
      · simp (disch := omega) only [if_pos, if_neg, w64, rdn, rd0, tn, sc, Option.bind_some, ↓reduceIte, Bool.false_eq_true, Bool.true_eq_false]
        refine Ev.val ?_
        have : ¬ StateP a l := fun p => by have := p.2.2.2.2 i (by omega); omega
        simp [this]
      · simp (disch := omega) only [if_pos, if_neg, w64, rdn, rd0, tn, sc, Option.bind_some, ↓reduceIte, Bool.false_eq_true, Bool.true_eq_false]
        refine ih (i + 1) (by omega) (by omega) ?_
        intro j hji
        by_cases e' : j = i
        · subst e'; omega
        · exact hj j (by omega)
theorem spec_StateOk_ev (a : Int) (l : List Int) (hl : l.length ≤ 1048576) : Ev (fun k => spec_StateOk.f k a l) (decide (StateP a l)) := by
  unfold spec_StateOk.f
  exact spec_StateOk_l0 a l hl _ 0 rfl (by omega) (fun j h => by omega)

theorem spec_NetOk_l2 (l : List Int) (h6 : l.length ≤ 6) (hr : ∀ j, j < l.length → 0 ≤ G l j ∧ G l j < 2 ^ l.length) (i : Nat) (hi : i < l.length) (r : Bool)
    (hbad : ∀ k, k < l.length → ¬ ((adj l i k ↔ adj l k i) ∧ ¬ (k = i ∧ adj l i i)) → r = false)
    (hgood : (∀ k, k < l.length → (adj l i k ↔ adj l k i)) → ¬ adj l i i → Ev (fun k => spec_NetOk.l1 k l ((i + 1 : Nat) : Int)) r) :
    ∀ (d : Nat) (j : Nat), l.length - j = d → j ≤ l.length → (∀ k, k < j → (adj l i k ↔ adj l k i) ∧ ¬ (k = i ∧ adj l i i)) →
      Ev (fun k => spec_NetOk.l2 k l (i : Int) (j : Int)) r := by
  intro d
  induction d with
  | zero =>
    intro j hd hj hk
    refine Ev.step (fun k => spec_NetOk.l2.eq_2 ..) ?_
    simp (disch := omega) only [if_pos, if_neg, w64, rdn, rd0, tn, sc, Option.bind_some, ↓reduceIte, Bool.false_eq_true, Bool.true_eq_false]
    exact hgood (fun k hkl => (hk k (by omega)).1) (fun h => (hk i (by omega)).2 ⟨rfl, h⟩)
  | succ d ih =>
    intro j hd hj hk
    refine Ev.step (fun k => spec_NetOk.l2.eq_2 ..) ?_
    have b1 := bit_mod (G l i) (j := j) (by omega) (hr i hi).1
    have b2 := bit_mod (G l j) (j := i) (by omega) (hr j (by omega)).1
    have m1 := Int.emod_two_eq (G l i / 2 ^ j)
    have m2 := Int.emod_two_eq (G l j / 2 ^ i)
    by_cases e : adj l i j ↔ adj l j i
    · have e' : G l i / 2 ^ j % 2 = G l j / 2 ^ i % 2 := by
        unfold adj at e
        by_cases c : G l i / 2 ^ j % 2 = 1
        · rw [c, e.1 c]
        · have c2 := fun h => c (e.2 h)
          omega
      simp only [rdn, b1, b2]
      by_cases eji : j = i
      · by_cases ea : G l i / 2 ^ j % 2 = 1
        · simp (disch := omega) only [if_pos, if_neg, w64, rdn, rd0, tn, sc, Option.bind_some, ↓reduceIte, Bool.false_eq_true, Bool.true_eq_false]
          refine Ev.val (hbad j (by omega) (fun h => h.2 ⟨eji, ?_⟩)).symm
          rw [eji] at ea; exact ea
        · simp (disch := omega) only [if_pos, if_neg, w64, rdn, rd0, tn, sc, Option.bind_some, ↓reduceIte, Bool.false_eq_true, Bool.true_eq_false]
          refine ih _ (by omega) (by omega) ?_
          intro k hkj
          by_cases e'' : k = j
          · subst e''; refine ⟨e, fun h => ea ?_⟩; have := h.2; rw [eji]; exact this
          · exact hk k (by omega)
      · simp (disch := omega) only [if_pos, if_neg, w64, rdn, rd0, tn, sc, Option.bind_some, ↓reduceIte, Bool.false_eq_true, Bool.true_eq_false]
        refine ih _ (by omega) (by omega) ?_
        intro k hkj
        by_cases e'' : k = j
        · subst e''; exact ⟨e, fun h => eji h.1⟩
        · exact hk k (by omega)
    · have e' : ¬ G l i / 2 ^ j % 2 = G l j / 2 ^ i % 2 := by
        intro h
        apply e
        unfold adj
        rw [h]
      simp only [rdn, b1, b2]
      simp (disch := omega) only [if_pos, if_neg, w64, rdn, rd0, tn, sc, Option.bind_some, ↓reduceIte, Bool.false_eq_true, Bool.true_eq_false]
      exact Ev.val (hbad j (by omega) (fun h => e h.1)).symm
theorem spec_NetOk_l1 (l : List Int) (h1 : 1 ≤ l.length) (h6 : l.length ≤ 6) (hr : ∀ j, j < l.length → 0 ≤ G l j ∧ G l j < 2 ^ l.length) : ∀ (d : Nat) (i : Nat), l.length - i = d → i ≤ l.length →
    (∀ j, j < i → (¬ adj l j j ∧ ∀ k, k < l.length → (adj l j k ↔ adj l k j))) → Ev (fun k => spec_NetOk.l1 k l (i : Int)) (decide (NetP l)) := by
  intro d
  induction d with
  | zero =>
    intro i hd hi hj
    refine Ev.step (fun k => spec_NetOk.l1.eq_2 ..) ?_
    simp (disch := omega) only [if_pos, if_neg, w64, rdn, rd0, tn, sc, Option.bind_some, ↓reduceIte, Bool.false_eq_true, Bool.true_eq_false]
    have : NetP l := ⟨h1, h6, fun j h => ⟨(hr j h).1, (hr j h).2, (hj j (by omega)).1, (hj j (by omega)).2⟩⟩
    exact Ev.val (by simp [this])
  | succ d ih =>
    intro i hd hi hj
    refine Ev.step (fun k => spec_NetOk.l1.eq_2 ..) ?_
    simp (disch := omega) only [if_pos, if_neg, w64, rdn, rd0, tn, sc, Option.bind_some, ↓reduceIte, Bool.false_eq_true, Bool.true_eq_false]
    refine spec_NetOk_l2 l h6 hr i (by omega) _ ?_ ?_ _ 0 rfl (by omega) (fun k h => by omega)
    · intro k hk hn
      have : ¬ NetP l := fun p => hn ⟨(p.2.2 i (by omega)).2.2.2 k hk, fun h => (p.2.2 i (by omega)).2.2.1 h.2⟩
      simp [this]
    · intro hall hirr
      refine ih _ (by omega) (by omega) ?_
      intro j hji
      by_cases e' : j = i
      · subst e'; exact ⟨hirr, hall⟩
      · exact hj j (by omega)
theorem spec_NetOk_l0 (l : List Int) (h1 : 1 ≤ l.length) (h6 : l.length ≤ 6) : ∀ (d : Nat) (i : Nat), l.length - i = d → i ≤ l.length →
    (∀ j, j < i → 0 ≤ G l j ∧ G l j < 2 ^ l.length) → Ev (fun k => spec_NetOk.l0 k l (i : Int)) (decide (NetP l)) := by
  intro d
  induction d with
  | zero =>
    intro i hd hi hj
    refine Ev.step (fun k => spec_NetOk.l0.eq_2 ..) ?_
    simp (disch := omega) only [if_pos, if_neg, w64, rdn, rd0, tn, sc, Option.bind_some, ↓reduceIte, Bool.false_eq_true, Bool.true_eq_false]
    exact spec_NetOk_l1 l h1 h6 (fun j h => hj j (by omega)) _ 0 rfl (by omega) (fun j h => by omega)
  | succ d ih =>
    intro i hd hi hj
    refine Ev.step (fun k => spec_NetOk.l0.eq_2 ..) ?_
    have hs := shl1 (n := l.length) (by omega)
    have hp := pow_lt63 (n := l.length) (by omega)
    have hq := pow_pos2 l.length
    have hw : wrap64 ((2 : Int) ^ l.length - 1) = 2 ^ l.length - 1 := w64 (by omega) (by omega)
    simp only [rdn, hs, hw, spec_l1In_eq, Option.bind_some]
    by_cases e : 0 ≤ G l i ∧ G l i ≤ 2 ^ l.length - 1
    · simp only [e, and_self, decide_true]
      simp (disch := omega) only [if_pos, if_neg, w64, rdn, rd0, tn, sc, Option.bind_some, ↓reduceIte, Bool.false_eq_true, Bool.true_eq_false]
      refine ih _ (by omega) (by omega) ?_
      intro j hji
      by_cases e' : j = i
      · subst e'; omega
      · exact hj j (by omega)
    · simp only [e, decide_false]
      simp (disch := omega) only [if_pos, if_neg, w64, rdn, rd0, tn, sc, Option.bind_some, ↓reduceIte, Bool.false_eq_true, Bool.true_eq_false]
      have : ¬ NetP l := fun p => e ⟨(p.2.2 i (by omega)).1, by have := (p.2.2 i (by omega)).2.1; omega⟩
      exact Ev.val (by simp [this])
theorem spec_NetOk_ev (l : List Int) (hl : l.length ≤ 1048576) : Ev (fun k => spec_NetOk.f k l) (decide (NetP l)) := by
  unfold spec_NetOk.f
  simp only [spec_l1In_eq, Option.bind_some]
  by_cases h : 1 ≤ l.length ∧ l.length ≤ 6
  · have h' : (1 : Int) ≤ (l.length : Int) ∧ (l.length : Int) ≤ 6 := by omega
    simp only [h', and_self, decide_true]
    simp (disch := omega) only [if_pos, if_neg, w64, rdn, rd0, tn, sc, Option.bind_some, ↓reduceIte, Bool.false_eq_true, Bool.true_eq_false]
    exact spec_NetOk_l0 l h.1 h.2 _ 0 rfl (by omega) (fun j h => by omega)
  · have h' : ¬ ((1 : Int) ≤ (l.length : Int) ∧ (l.length : Int) ≤ 6) := by omega
    simp only [h', decide_false]
    simp (disch := omega) only [if_pos, if_neg, w64, rdn, rd0, tn, sc, Option.bind_some, ↓reduceIte, Bool.false_eq_true, Bool.true_eq_false]
    have : ¬ NetP l := fun p => h ⟨p.1, p.2.1⟩
    exact Ev.val (by simp [this])

theorem spec_l3Ok_ev (net s : List Int) (kinds : Int) (hn : net.length ≤ 1048576) (hs : s.length ≤ 1048576) : Ev (fun k => spec_l3Ok.f k net kinds s) (decide (Asked net kinds s)) := by
  unfold spec_l3Ok.f
  refine Ev.bind (spec_NetOk_ev net hn) ?_
  by_cases h1 : NetP net
  · simp only [h1, decide_true]
    simp (disch := omega) only [if_pos, if_neg, w64, rdn, rd0, tn, sc, Option.bind_some, ↓reduceIte, Bool.false_eq_true, Bool.true_eq_false]
    refine Ev.bind (spec_StateOk_ev kinds s hs) ?_
    by_cases h2 : StateP kinds s
    · simp only [h2, decide_true]
      simp (disch := omega) only [if_pos, if_neg, w64, rdn, rd0, tn, sc, Option.bind_some, ↓reduceIte, Bool.false_eq_true, Bool.true_eq_false]
      refine Ev.val ?_
      rw [Bool.eq_iff_iff, beq_iff_eq, decide_eq_true_eq]
      unfold Asked
      constructor
      · intro h; exact ⟨h1, h2, by omega⟩
      · intro h; have := h.2.2; omega
    · simp only [h2, decide_false]
      simp (disch := omega) only [if_pos, if_neg, w64, rdn, rd0, tn, sc, Option.bind_some, ↓reduceIte, Bool.false_eq_true, Bool.true_eq_false]
      have : ¬ Asked net kinds s := fun h => h2 h.2.1
      exact Ev.val (by simp [this])
  · simp only [h1, decide_false]
    simp (disch := omega) only [if_pos, if_neg, w64, rdn, rd0, tn, sc, Option.bind_some, ↓reduceIte, Bool.false_eq_true, Bool.true_eq_false]
    have : ¬ Asked net kinds s := fun h => h1 h.1
    exact Ev.val (by simp [this])

theorem spec_l6Rise_eq (a b : Int) (ha : 0 ≤ a ∧ a < 3) (hb : 0 ≤ b ∧ b < 3) : spec_l6Rise.f a b = some (rise a b) := by
  unfold spec_l6Rise.f rise
  have h1 : wrap64 (b - a) = b - a := w64 (by omega) (by omega)
  have h2 : wrap64 (b - a + 3) = b - a + 3 := w64 (by omega) (by omega)
  have h3 : wrap64 (b - a + 3 + 1) = b - a + 4 := by rw [w64 (by omega) (by omega)]; omega
  rw [h1, h2, h3, tmod_nn (by omega), w64 (by omega) (by omega)]

-- needs Turn
theorem spec_l6Most_l2 (net s m : List Int) (h : Asked net 3 s) (steps : Int) (st i : Nat) (hi : i < s.length) (hm : m.length = s.length) (hmb : ∀ j, j < s.length → 0 ≤ G m j ∧ G m j ≤ 1000) (r : List Int)
    (hend : ∀ x : List Int, x.length = s.length → (∀ p, p < s.length → G x p = if p < i + 1 then maxA net p (fun j => rise (G s p) (G s j) + G m j) (G m p) s.length else G m p) → Ev (fun k => spec_l6Most.l1 k net s steps m (st : Int) x ((i + 1 : Nat) : Int)) r) :
    ∀ (d j : Nat) (x : List Int), s.length - j = d → j ≤ s.length → x.length = s.length →
      (∀ p, p < s.length → p ≠ i → G x p = if p < i then maxA net p (fun j => rise (G s p) (G s j) + G m j) (G m p) s.length else G m p) →
      G x i = maxA net i (fun j => rise (G s i) (G s j) + G m j) (G m i) j →
      Ev (fun k => spec_l6Most.l2 k net s steps m (st : Int) x (i : Int) (j : Int)) r := by
  intro d
  have h6 := asked6 h
  have hl := h.2.2
  induction d with
  | zero =>
    intro j x hd hj hx hp hi'
    refine Ev.step (fun k => spec_l6Most.l2.eq_2 ..) ?_
    simp (disch := omega) only [if_pos, if_neg, w64, rdn, rd0, tn, sc, Option.bind_some, ↓reduceIte, Bool.false_eq_true, Bool.true_eq_false]
    refine hend x hx (fun p hpl => ?_)
    by_cases e : p = i
    · subst e; rw [if_pos (by omega), hi', show j = s.length from by omega]
    · rw [hp p hpl e]
      by_cases e3 : p < i
      · rw [if_pos e3, if_pos (by omega)]
      · rw [if_neg e3, if_neg (by omega)]
  | succ d ih =>
    intro j x hd hj hx hp hi'
    refine Ev.step (fun k => spec_l6Most.l2.eq_2 ..) ?_
    have hb := bit_mod (G net i) (j := j) (by omega) (h.1.2.2 i (by omega)).1
    have er := spec_l6Rise_eq _ _ (h.2.1.2.2.2.2 i (by omega)) (h.2.1.2.2.2.2 j (by omega))
    have hr := rise_le (G s i) (G s j)
    have hmj := hmb j (by omega)
    have hmx : mx (G x i) (rise (G s i) (G s j) + G m j) = mxi (G x i) (rise (G s i) (G s j) + G m j) := rfl
    simp only [rdn, tn, hb, er, Option.bind_some]
    clear hb er
    by_cases e1 : G net i / 2 ^ j % 2 = 1
    · have e2 : maxA net i (fun j => rise (G s i) (G s j) + G m j) (G m i) (j + 1) = mxi (G x i) (rise (G s i) (G s j) + G m j) := by
        simp only [maxA]; rw [if_pos (show adj net i j from e1), hi']
      simp (disch := omega) only [if_pos, if_neg, w64, rdn, rd0, tn, sc, Option.bind_some, ↓reduceIte, Bool.false_eq_true, Bool.true_eq_false]
      refine ih (j + 1) _ (by omega) (by omega) (by simp [hx]) ?_ ?_
      · intro p hpl hpi
        rw [G_set_ne _ hpi]; exact hp p hpl hpi
      · rw [G_set_self _ (by omega), e2, hmx]
    · have e2 : maxA net i (fun j => rise (G s i) (G s j) + G m j) (G m i) (j + 1) = G x i := by
        simp only [maxA]; rw [if_neg (show ¬ adj net i j from e1), hi']
      simp (disch := omega) only [if_pos, if_neg, w64, rdn, rd0, tn, sc, Option.bind_some, ↓reduceIte, Bool.false_eq_true, Bool.true_eq_false]
      exact ih (j + 1) x (by omega) (by omega) hx hp e2.symm
theorem spec_l6Most_l1 (net s m : List Int) (h : Asked net 3 s) (steps : Int) (st : Nat) (hst : st ≤ 100) (hm : m.length = s.length) (hmb : ∀ j, j < s.length → 0 ≤ G m j ∧ G m j ≤ 1000) (r : List Int)
    (hend : ∀ x : List Int, x.length = s.length → (∀ p, p < s.length → G x p = maxA net p (fun j => rise (G s p) (G s j) + G m j) (G m p) s.length) → Ev (fun k => spec_l6Most.l0 k net s steps x ((st + 1 : Nat) : Int)) r) :
    ∀ (d i : Nat) (x : List Int), s.length - i = d → i ≤ s.length → x.length = s.length →
      (∀ p, p < s.length → G x p = if p < i then maxA net p (fun j => rise (G s p) (G s j) + G m j) (G m p) s.length else G m p) →
      Ev (fun k => spec_l6Most.l1 k net s steps m (st : Int) x (i : Int)) r := by
  intro d
  have h6 := asked6 h
  have hl := h.2.2
  induction d with
  | zero =>
    intro i x hd hi hx hp
    refine Ev.step (fun k => spec_l6Most.l1.eq_2 ..) ?_
    simp (disch := omega) only [if_pos, if_neg, w64, rdn, rd0, tn, sc, Option.bind_some, ↓reduceIte, Bool.false_eq_true, Bool.true_eq_false]
    exact hend x hx (fun p hpl => by rw [hp p hpl, if_pos (by omega)])
  | succ d ih =>
    intro i x hd hi hx hp
    refine Ev.step (fun k => spec_l6Most.l1.eq_2 ..) ?_
    simp (disch := omega) only [if_pos, if_neg, w64, rdn, rd0, tn, sc, Option.bind_some, ↓reduceIte, Bool.false_eq_true, Bool.true_eq_false]
    refine spec_l6Most_l2 net s m h steps st i (by omega) hm hmb r (fun y hy hq => ih (i + 1) y (by omega) (by omega) hy hq) _ 0 x rfl (by omega) hx (fun p hpl _ => hp p hpl) ?_
    rw [hp i (by omega), if_neg (by omega)]; rfl
theorem spec_l6Most_l0 (net s : List Int) (h : Asked net 3 s) (steps : Nat) (hs : steps ≤ 60) : ∀ (d st : Nat), steps - st = d → st ≤ steps →
    Ev (fun k => spec_l6Most.l0 k net s (steps : Int) (mk s.length (turnedN net s st)) (st : Int)) (mk s.length (turnedN net s steps)) := by
  intro d
  have h6 := asked6 h
  induction d with
  | zero =>
    intro st hd hst
    refine Ev.step (fun k => spec_l6Most.l0.eq_2 ..) ?_
    obtain rfl : st = steps := by omega
    simp (disch := omega) only [if_pos, if_neg, w64, rdn, rd0, tn, sc, Option.bind_some, ↓reduceIte, Bool.false_eq_true, Bool.true_eq_false]
    exact Ev.now _
  | succ d ih =>
    intro st hd hst
    refine Ev.step (fun k => spec_l6Most.l0.eq_2 ..) ?_
    have e : ([] : List Int).length = 0 := rfl
    simp only [e, List.nil_append, Option.bind_some, mk_length]
    simp (disch := omega) only [if_pos, if_neg, w64, rdn, rd0, tn, sc, Option.bind_some, ↓reduceIte, Bool.false_eq_true, Bool.true_eq_false]
    refine spec_l6Most_l1 net s _ h _ st (by omega) (mk_length _ _) (fun j hj => by rw [G_mk _ hj]; have := turnedN_bd net s st j; omega) _ ?_ _ 0 _ rfl (by omega) (mk_length _ _) (fun p hp => by rw [if_neg (by omega)])
    intro x hx hp
    have e2 : x = mk s.length (turnedN net s (st + 1)) := mk_eq_iff.2 ⟨hx, fun p hpl => by
      rw [hp p hpl, turnedN_max h hpl, G_mk _ hpl]
      exact maxA_congr (fun j hj => by rw [G_mk _ hj])⟩
    rw [e2]
    exact ih (st + 1) (by omega) (by omega)
theorem spec_l6Most_ev (net s : List Int) (h : Asked net 3 s) (steps : Nat) (hs : steps ≤ 60) : Ev (fun k => spec_l6Most.f k net s (steps : Int)) (mk s.length (turnedN net s steps)) := by
  unfold spec_l6Most.f
  have h6 := asked6 h
  have hl := h.2.2
  simp (disch := omega) only [if_pos, if_neg, w64, rdn, rd0, tn, sc, Option.bind_some, ↓reduceIte, Bool.false_eq_true, Bool.true_eq_false]
  rw [replicate_mk, hl]
  exact spec_l6Most_l0 net s h steps hs _ 0 rfl (by omega)

-- needs Best
theorem spec_BestTour_l2 (net s : List Int) (h : Asked net 3 s) (l i : Nat) (hl11 : l ≤ 11) (hi : i < s.length) (hf : FewP net s (l + 1) i (l + 1)) (hw : Wired net s i) (P : List Int) (hP : P.length ≤ 30) (r : List Int)
    (hend : Ev (fun k => spec_BestTour.l1 k net s (turnedN net s l (nextOf net s l i)) (P ++ [((nextOf net s l i : Nat) : Int)]) (l : Int)) r) : ∀ (d j : Nat), j + d = s.length →
    firstP (fun j => adj net i j ∧ rise (G s i) (G s j) + jst net s l j = jst net s (l + 1) i) d j = nextOf net s l i →
    Ev (fun k => spec_BestTour.l2 k net s (jst net s (l + 1) i) P ((l + 1 : Nat) : Int) (mk s.length (turnedN net s l)) (i : Int) (j : Int)) r := by
  intro d
  have h6 := asked6 h
  have hl := h.2.2
  induction d with
  | zero =>
    intro j hd hfp
    have n1 := (nextOf_spec h (l := l) (Nat.le_trans hl11 (by decide)) hi hw).1
    have e : j = nextOf net s l i := hfp
    rw [← e] at n1
    clear hfp e hend
    omega
  | succ d ih =>
    intro j hd
    have hjs : j < s.length := by omega
    have g1 : j + 1 + d = s.length := by omega
    have hb := bit_mod (G net i) (j := j) (by omega) (h.1.2.2 i (by omega)).1
    have hs := h.2.1.2.2.2.2
    have er := spec_l6Rise_eq (G s i) (G s j) (hs i hi) (hs j (by omega))
    have hr := rise_le (G s i) (G s j)
    have hbd := turnedN_bd net s l j
    have c1 : (j : Int) < (net.length : Int) := by omega
    have c2 : 0 ≤ (j : Int) := by omega
    have c3 : 0 ≤ (i : Int) := by omega
    have c4 : (i : Int) < (net.length : Int) := by omega
    have c5 : (j : Int) < (s.length : Int) := by omega
    have c6 : (i : Int) < (s.length : Int) := by omega
    have c11 : P.length < 17592186044416 := Nat.lt_of_le_of_lt hP (by decide)
    have hw1 : wrap64 ((j : Int) + 1) = ((j + 1 : Nat) : Int) := w64 (by omega) (by omega)
    have hwl : wrap64 (((l + 1 : Nat) : Int) - 1) = (l : Int) := by rw [w64 (by omega) (by omega)]; omega
    have eg : G (mk s.length (turnedN net s l)) j = turnedN net s l j := G_mk (turnedN net s l) hjs
    have hw2 : wrap64 (rise (G s i) (G s j) + turnedN net s l j) = rise (G s i) (G s j) + turnedN net s l j := w64 (by omega) (by omega)
    intro hfp
    refine Ev.step (fun k => spec_BestTour.l2.eq_2 ..) ?_
    have hfs : firstP (fun j => adj net i j ∧ rise (G s i) (G s j) + jst net s l j = jst net s (l + 1) i) (d + 1) j = if adj net i j ∧ rise (G s i) (G s j) + jst net s l j = jst net s (l + 1) i then j else firstP (fun j => adj net i j ∧ rise (G s i) (G s j) + jst net s l j = jst net s (l + 1) i) d (j + 1) := rfl
    rw [hfs] at hfp
    clear hfs
    by_cases e1 : G net i / 2 ^ j % 2 = 1
    · have hst := (few_step h hi hjs e1 hf).1
      simp only [c1, c2, c3, c4, c5, c6, if_true, rdn, hb, e1, er, Option.bind_some, hwl, mk_length, eg, hw2, hw1]
      by_cases e2 : rise (G s i) (G s j) + jst net s l j = jst net s (l + 1) i
      · rw [if_pos ⟨e1, e2⟩] at hfp
        have e3 := hst.1 e2
        simp only [e3, if_true, c11]
        rw [← hfp] at hend
        exact hend
      · rw [if_neg (fun g => e2 g.2)] at hfp
        have e3 : ¬ rise (G s i) (G s j) + turnedN net s l j = jst net s (l + 1) i := fun g => e2 (hst.2 g)
        simp only [e3, if_false]
        exact ih (j + 1) g1 hfp
    · rw [if_neg (fun g => e1 g.1)] at hfp
      simp only [c1, c2, c3, c4, if_true, rdn, hb, e1, if_false, hw1]
      exact ih (j + 1) g1 hfp
theorem few_self {net s : List Int} (h : Asked net 3 s) {t i b : Nat} (hi : i < s.length) (hb : FewP net s t i b) : FewP net s b i b ∧ jst net s b i = turnedN net s t i := by
  have h1 := jst_le_most h b i hi
  have h2 := turnedN_le (net := net) (s := s) (i := i) hb.1
  have h3 := hb.2.1
  refine ⟨⟨Nat.le_refl _, by omega, fun m hm => ?_⟩, h3⟩
  have := hb.2.2 m hm
  omega
theorem spec_BestTour_l1 (net s : List Int) (h : Asked net 3 s) : ∀ (l i : Nat) (P : List Int), l ≤ 11 → i < s.length → FewP net s l i l → P.length + l ≤ 20 →
    Ev (fun k => spec_BestTour.l1 k net s (jst net s l i) (P ++ [(i : Int)]) (l : Int)) (P ++ [(i : Int)] ++ route net s l i) := by
  intro l
  have h6 := asked6 h
  have hl := h.2.2
  induction l with
  | zero =>
    intro i P h11 hi hf hP
    refine Ev.step (fun k => spec_BestTour.l1.eq_2 ..) ?_
    have e0 : ¬ (((0 : Nat) : Int) > 0) := by omega
    simp only [e0, if_false]
    exact Ev.val (by show _ = _ ++ []; rw [List.append_nil])
  | succ l ih =>
    intro i P h11 hi hf hP
    have hw' : Wired net s i := (few_wired h hi hf).elim (fun e => by omega) id
    have q2 : l ≤ 11 := by omega
    have q3 : P.length + 1 + l ≤ 20 := by omega
    have q4 : P.length + 1 ≤ 30 := by omega
    have q5 : l ≤ 100 := by omega
    have q6 : l ≤ 60 := by omega
    have e1 : wrap64 (((P.length + 1 : Nat) : Int) - 1) = (P.length : Int) := by rw [w64 (by omega) (by omega)]; omega
    have e2 : (P.length : Int) < ((P.length + 1 : Nat) : Int) := by omega
    have c1 : ((l + 1 : Nat) : Int) > 0 := by omega
    have c2 : 0 ≤ (P.length : Int) := by omega
    have hwl : wrap64 (((l + 1 : Nat) : Int) - 1) = (l : Int) := by rw [w64 (by omega) (by omega)]; omega
    obtain ⟨n1, n2, n3⟩ := nextOf_spec h (l := l) q5 hi hw'
    have hf2 := (few_step h hi n1 n2 hf).2 n3
    have lP : (P ++ [(i : Int)]).length = P.length + 1 := by rw [List.length_append]; rfl
    have ih' := ih (nextOf net s l i) (P ++ [(i : Int)]) q2 n1 hf2 (by rw [lP]; exact q3)
    rw [hf2.2.1] at ih'
    refine Ev.step (fun k => spec_BestTour.l1.eq_2 ..) ?_
    have hw1 : wrap64 (((P ++ [(i : Int)]).length : Int) - 1) = (P.length : Int) := by rw [lP]; exact e1
    have c3 : (P.length : Int) < ((P ++ [(i : Int)]).length : Int) := by rw [lP]; exact e2
    have eg : G (P ++ [(i : Int)]) P.length = (i : Int) := by rw [G_append_right (Nat.le_refl _), Nat.sub_self]; rfl
    simp only [c1, if_true, hwl]
    refine Ev.bind (spec_l6Most_ev net s h l q6) ?_
    simp only [hw1, c2, c3, if_true, rdn, eg]
    refine spec_BestTour_l2 net s h l i q2 hi hf hw' (P ++ [(i : Int)]) (by rw [lP]; exact q4) _ ?_ s.length 0 (Nat.zero_add _) rfl
    have er : P ++ [(i : Int)] ++ route net s (l + 1) i = P ++ [(i : Int)] ++ [((nextOf net s l i : Nat) : Int)] ++ route net s l (nextOf net s l i) := by
      show P ++ [(i : Int)] ++ (((nextOf net s l i : Nat) : Int) :: route net s l (nextOf net s l i)) = _
      simp
    rw [er]
    exact ih'
theorem spec_BestTour_l0 (net s : List Int) (h : Asked net 3 s) (a t b : Nat) (ha : a < s.length) (ht : t ≤ 11) (hb : FewP net s t a b) : ∀ (d m : Nat), m + d = b →
    Ev (fun k => spec_BestTour.l0 k net s (a : Int) (turnedN net s t a) (m : Int)) (bestTour net s (a : Int) (t : Int)) := by
  intro d
  have h6 := asked6 h
  have hl := h.2.2
  have hbt := hb.1
  induction d with
  | zero =>
    intro m hd
    obtain rfl : m = b := by omega
    refine Ev.step (fun k => spec_BestTour.l0.eq_2 ..) ?_
    refine Ev.bind (spec_l6Most_ev net s h m (by omega)) ?_
    have c5 : 0 ≤ (a : Int) := by omega
    have c6 : (a : Int) < (s.length : Int) := by omega
    have eg : G (mk s.length (turnedN net s m)) a = turnedN net s m a := G_mk _ ha
    obtain ⟨hf, hj⟩ := few_self h ha hb
    have hge : ¬ turnedN net s m a < turnedN net s t a := by rw [few_iff h ha hb (Nat.le_refl _)]; omega
    simp only [mk_length, c5, c6, if_true, rdn, eg, hge, if_false]
    rw [bestTour_eq h (by omega) (by omega) hb, ← hj]
    exact spec_BestTour_l1 net s h m a [] (by omega) ha hf (by show 0 + m ≤ 20; omega)
  | succ d ih =>
    intro m hd
    refine Ev.step (fun k => spec_BestTour.l0.eq_2 ..) ?_
    refine Ev.bind (spec_l6Most_ev net s h m (by omega)) ?_
    have c5 : 0 ≤ (a : Int) := by omega
    have c6 : (a : Int) < (s.length : Int) := by omega
    have eg : G (mk s.length (turnedN net s m)) a = turnedN net s m a := G_mk _ ha
    have hlt : turnedN net s m a < turnedN net s t a := (few_iff h ha hb (by omega)).2 (by omega)
    have hw : wrap64 ((m : Int) + 1) = ((m + 1 : Nat) : Int) := w64 (by omega) (by omega)
    simp only [mk_length, c5, c6, if_true, rdn, eg, hlt, hw]
    exact ih (m + 1) (by omega)
theorem spec_BestTour_ev (net s : List Int) (a t : Int) (hn : net.length ≤ 1048576) (hs : s.length ≤ 1048576) : Ev (fun k => spec_BestTour.f k net s a t) (bestTour net s a t) := by
  have hj : ¬ (Asked net 3 s ∧ 0 ≤ t ∧ t < 12 ∧ 0 ≤ a ∧ a < net.length) → Ev (fun k => spec_BestTour.j0 k net s a t true) (bestTour net s a t) := fun g => by
    rw [bestTour_no g]
    refine Ev.step (fun k => spec_BestTour.j0.eq_2 ..) ?_
    simp only [if_true]
    exact Ev.now _
  unfold spec_BestTour.f
  refine Ev.bind (spec_l3Ok_ev net s 3 hn hs) ?_
  by_cases h : Asked net 3 s
  · have h6 := asked6 h
    have hl := h.2.2
    have hw : wrap64 ((net.length : Int) - 1) = (net.length : Int) - 1 := w64 (by omega) (by omega)
    simp only [h, decide_true, if_true, spec_l1In_eq, Option.bind_some, hw]
    by_cases h1 : 0 ≤ a ∧ a ≤ (net.length : Int) - 1
    · simp only [h1, and_self, decide_true, if_true]
      by_cases h2 : 0 ≤ t ∧ t ≤ 11
      · simp only [h2, and_self, decide_true, Bool.not_true]
        obtain ⟨i, rfl⟩ := Int.eq_ofNat_of_zero_le h1.1
        obtain ⟨q, rfl⟩ := Int.eq_ofNat_of_zero_le h2.1
        refine Ev.step (fun k => spec_BestTour.j0.eq_2 ..) ?_
        simp only [Bool.false_eq_true, if_false]
        refine Ev.bind (spec_l6Most_ev net s h q (by omega)) ?_
        have c5 : 0 ≤ (i : Int) := by omega
        have c6 : (i : Int) < (s.length : Int) := by omega
        have eg : G (mk s.length (turnedN net s q)) i = turnedN net s q i := G_mk _ (by omega)
        simp only [mk_length, c5, c6, if_true, rdn, eg]
        obtain ⟨b, hb⟩ := few_exists h (show i < s.length by omega) q
        exact spec_BestTour_l0 net s h i q b (by omega) (by omega) hb b 0 (by omega)
      · have e : decide (0 ≤ t ∧ t ≤ 11) = false := decide_eq_false h2
        simp only [e, Bool.not_false]
        exact hj (fun g => h2 ⟨g.2.1, by omega⟩)
    · have e : decide (0 ≤ a ∧ a ≤ (net.length : Int) - 1) = false := decide_eq_false h1
      simp only [e, Bool.false_eq_true, if_false]
      exact hj (fun g => h1 ⟨g.2.2.2.1, by omega⟩)
  · simp only [h, decide_false, Bool.false_eq_true, if_false]
    exact hj (fun g => h g.1)

theorem impl_NetOk_l1 (l : List Int) (h6 : l.length ≤ 6) (i : Nat) (hi : i < l.length) (r : Bool)
    (hbad : ∀ k, k < l.length → ¬ (adj l i k ↔ adj l k i) → r = false)
    (hgood : (∀ k, k < l.length → (adj l i k ↔ adj l k i)) → Ev (fun k => impl_NetOk.l0 k l l (l.length : Int) ((i + 1 : Nat) : Int)) r) :
    ∀ (d : Nat) (j : Nat), l.length - j = d → j ≤ l.length → (∀ k, k < j → (adj l i k ↔ adj l k i)) →
      Ev (fun k => impl_NetOk.l1 k l (i : Int) (G l i) l (l.length : Int) (i : Int) (l.length : Int) (j : Int)) r := by
  intro d
  induction d with
  | zero =>
    intro j hd hj hk
    refine Ev.step (fun k => impl_NetOk.l1.eq_2 ..) ?_
    simp (disch := omega) only [if_pos, if_neg, w64, rdn, rd0, tn, sc, Option.bind_some, ↓reduceIte, Bool.false_eq_true, Bool.true_eq_false]
    exact hgood (fun k hkl => hk k (by omega))
  | succ d ih =>
    intro j hd hj hk
    refine Ev.step (fun k => impl_NetOk.l1.eq_2 ..) ?_
    have b1 := bit_and (G l i) (j := j) (by omega)
    have b2 := bit_and (G l j) (j := i) (by omega)
    have m1 := Int.emod_two_eq (G l i / 2 ^ j)
    have m2 := Int.emod_two_eq (G l j / 2 ^ i)
    by_cases e : adj l i j ↔ adj l j i
    · have e' : G l i / 2 ^ j % 2 = G l j / 2 ^ i % 2 := by
        unfold adj at e
        by_cases c : G l i / 2 ^ j % 2 = 1
        · rw [c, e.1 c]
        · have c2 := fun h => c (e.2 h)
          omega
      simp only [rdn, b1, b2]
      simp (disch := omega) only [if_pos, if_neg, w64, rdn, rd0, tn, sc, Option.bind_some, ↓reduceIte, Bool.false_eq_true, Bool.true_eq_false]
      refine ih _ (by omega) (by omega) ?_
      intro k hkj
      by_cases e' : k = j
      · subst e'; exact e
      · exact hk k (by omega)
    · have e' : ¬ G l i / 2 ^ j % 2 = G l j / 2 ^ i % 2 := by
        intro h
        apply e
        unfold adj
        rw [h]
      simp only [rdn, b1, b2]
      simp (disch := omega) only [if_pos, if_neg, w64, rdn, rd0, tn, sc, Option.bind_some, ↓reduceIte, Bool.false_eq_true, Bool.true_eq_false]
      exact Ev.val (hbad j (by omega) e).symm
theorem impl_NetOk_l0 (l : List Int) (h1 : 1 ≤ l.length) (h6 : l.length ≤ 6) : ∀ (d : Nat) (i : Nat), l.length - i = d → i ≤ l.length →
    (∀ j, j < i → (0 ≤ G l j ∧ G l j < 2 ^ l.length ∧ ¬ adj l j j ∧ ∀ k, k < l.length → (adj l j k ↔ adj l k j))) → Ev (fun k => impl_NetOk.l0 k l l (l.length : Int) (i : Int)) (decide (NetP l)) := by
  intro d
  induction d with
  | zero =>
    intro i hd hi hj
    refine Ev.step (fun k => impl_NetOk.l0.eq_2 ..) ?_
    simp (disch := omega) only [if_pos, if_neg, w64, rdn, rd0, tn, sc, Option.bind_some, ↓reduceIte, Bool.false_eq_true, Bool.true_eq_false]
    have : NetP l := ⟨h1, h6, fun j h => hj j (by omega)⟩
    exact Ev.val (by simp [this])
  | succ d ih =>
    intro i hd hi hj
    refine Ev.step (fun k => impl_NetOk.l0.eq_2 ..) ?_
    have hs := shl1 (n := l.length) (by omega)
    have hb := bit_and (G l i) (j := i) (by omega)
    simp only [rdn, hs, hb]
    have bad : ¬ (0 ≤ G l i ∧ G l i < 2 ^ l.length ∧ ¬ adj l i i) → decide (NetP l) = false := by
      intro h
      have : ¬ NetP l := fun p => h ⟨(p.2.2 i (by omega)).1, (p.2.2 i (by omega)).2.1, (p.2.2 i (by omega)).2.2.1⟩
      simp [this]
    by_cases e0 : G l i < 0
    · simp (disch := omega) only [if_pos, if_neg, w64, rdn, rd0, tn, sc, Option.bind_some, ↓reduceIte, Bool.false_eq_true, Bool.true_eq_false]
      refine Ev.step (fun k => impl_NetOk.j2.eq_2 ..) ?_
      simp (disch := omega) only [if_pos, if_neg, w64, rdn, rd0, tn, sc, Option.bind_some, ↓reduceIte, Bool.false_eq_true, Bool.true_eq_false]
      exact Ev.val (bad (by omega)).symm
    · by_cases e1 : G l i ≥ 2 ^ l.length
      · simp (disch := omega) only [if_pos, if_neg, w64, rdn, rd0, tn, sc, Option.bind_some, ↓reduceIte, Bool.false_eq_true, Bool.true_eq_false]
        refine Ev.step (fun k => impl_NetOk.j2.eq_2 ..) ?_
        simp (disch := omega) only [if_pos, if_neg, w64, rdn, rd0, tn, sc, Option.bind_some, ↓reduceIte, Bool.false_eq_true, Bool.true_eq_false]
        exact Ev.val (bad (by omega)).symm
      · simp (disch := omega) only [if_pos, if_neg, w64, rdn, rd0, tn, sc, Option.bind_some, ↓reduceIte, Bool.false_eq_true, Bool.true_eq_false]
        refine Ev.step (fun k => impl_NetOk.j2.eq_2 ..) ?_
        by_cases e2 : G l i / 2 ^ i % 2 = 1
        · have e3 : (G l i / 2 ^ i % 2 == 1) = true := by simp [e2]
          simp only [e3]
          simp (disch := omega) only [if_pos, if_neg, w64, rdn, rd0, tn, sc, Option.bind_some, ↓reduceIte, Bool.false_eq_true, Bool.true_eq_false]
          exact Ev.val (bad (fun h => h.2.2 e2)).symm
        · have e3 : (G l i / 2 ^ i % 2 == 1) = false := by simp [e2]
          simp only [e3]
          simp (disch := omega) only [if_pos, if_neg, w64, rdn, rd0, tn, sc, Option.bind_some, ↓reduceIte, Bool.false_eq_true, Bool.true_eq_false]
          refine impl_NetOk_l1 l h6 i (by omega) _ ?_ ?_ _ 0 rfl (by omega) (fun k h => by omega)
          · intro k hk hn
            have : ¬ NetP l := fun p => hn ((p.2.2 i (by omega)).2.2.2 k hk)
            simp [this]
          · intro hall
            refine ih _ (by omega) (by omega) ?_
            intro j hji
            by_cases e' : j = i
            · subst e'; exact ⟨by omega, by omega, e2, hall⟩
            · exact hj j (by omega)
theorem impl_NetOk_ev (l : List Int) (hl : l.length ≤ 1048576) : Ev (fun k => impl_NetOk.f k l) (decide (NetP l)) := by
  unfold impl_NetOk.f
  by_cases h1 : l.length < 1
  · simp (disch := omega) only [if_pos, if_neg, w64, rdn, rd0, tn, sc, Option.bind_some, ↓reduceIte, Bool.false_eq_true, Bool.true_eq_false]
    refine Ev.step (fun k => impl_NetOk.j0.eq_2 ..) ?_
    simp (disch := omega) only [if_pos, if_neg, w64, rdn, rd0, tn, sc, Option.bind_some, ↓reduceIte, Bool.false_eq_true, Bool.true_eq_false]
    have : ¬ NetP l := fun p => by have := p.1; omega
    exact Ev.val (by simp [this])
  · simp (disch := omega) only [if_pos, if_neg, w64, rdn, rd0, tn, sc, Option.bind_some, ↓reduceIte, Bool.false_eq_true, Bool.true_eq_false]
    refine Ev.step (fun k => impl_NetOk.j0.eq_2 ..) ?_
    by_cases h6 : l.length > 6
    · have : decide ((l.length : Int) > 6) = true := by simp; omega
      simp only [this]
      simp (disch := omega) only [if_pos, if_neg, w64, rdn, rd0, tn, sc, Option.bind_some, ↓reduceIte, Bool.false_eq_true, Bool.true_eq_false]
      have : ¬ NetP l := fun p => by have := p.2.1; omega
      exact Ev.val (by simp [this])
    · have : decide ((l.length : Int) > 6) = false := by simp; omega
      simp only [this]
      simp (disch := omega) only [if_pos, if_neg, w64, rdn, rd0, tn, sc, Option.bind_some, ↓reduceIte, Bool.false_eq_true, Bool.true_eq_false]
      exact impl_NetOk_l0 l (by omega) (by omega) _ 0 rfl (by omega) (fun j h => by omega)

theorem impl_StateOk_l0 (a : Int) (l : List Int) (hl : l.length ≤ 1048576) : ∀ (d : Nat) (i : Nat), l.length - i = d → i ≤ l.length → (∀ j, j < i → 0 ≤ G l j ∧ G l j < a) → Ev (fun k => impl_StateOk.l0 k a l l (l.length : Int) (i : Int)) (decide (StateP a l)) := by
  intro d
  induction d with
  | zero =>
    intro i hd hi hj
    refine Ev.step (fun k => impl_StateOk.l0.eq_2 ..) ?_
    obtain rfl : i = l.length := by omega
    by_cases h3 : 3 ≤ a
    · by_cases h5 : a ≤ 5
      · by_cases h1 : 1 ≤ l.length
        · simp (disch := omega) only [if_pos, if_neg, w64, rdn, rd0, tn, sc, Option.bind_some, ↓reduceIte, Bool.false_eq_true, Bool.true_eq_false]
          refine Ev.val ?_
          rw [decide_eq_decide]
          unfold StateP
          constructor
          · intro e; exact ⟨h3, h5, h1, by omega, hj⟩
          · intro e; have := e.2.2.2.1; omega
        · simp (disch := omega) only [if_pos, if_neg, w64, rdn, rd0, tn, sc, Option.bind_some, ↓reduceIte, Bool.false_eq_true, Bool.true_eq_false]
          refine Ev.val ?_
          have : ¬ StateP a l := fun p => h1 p.2.2.1
          simp [this]
      · simp (disch := omega) only [if_pos, if_neg, w64, rdn, rd0, tn, sc, Option.bind_some, ↓reduceIte, Bool.false_eq_true, Bool.true_eq_false]
        refine Ev.val ?_
        have : ¬ StateP a l := fun p => h5 p.2.1
        simp [this]
    · simp (disch := omega) only [if_pos, if_neg, w64, rdn, rd0, tn, sc, Option.bind_some, ↓reduceIte, Bool.false_eq_true, Bool.true_eq_false]
      refine Ev.val ?_
      have : ¬ StateP a l := fun p => h3 p.1
      simp [this]
  | succ d ih =>
    intro i hd hi hj
    refine Ev.step (fun k => impl_StateOk.l0.eq_2 ..) ?_
    by_cases e0 : G l i < 0
    · simp (disch := omega) only [if_pos, if_neg, w64, rdn, rd0, tn, sc, Option.bind_some, ↓reduceIte, Bool.false_eq_true, Bool.true_eq_false]
      refine Ev.val ?_
      have : ¬ StateP a l := fun p => by have := p.2.2.2.2 i (by omega); omega
      simp [this]
    · by_cases e1 : G l i ≥ a
      · simp (disch := omega) only [if_pos, if_neg, w64, rdn, rd0, tn, sc, Option.bind_some, ↓reduceIte, Bool.false_eq_true, Bool.true_eq_false]
        refine Ev.val ?_
        have : ¬ StateP a l := fun p => by have := p.2.2.2.2 i (by omega); omega
        simp [this]
      · simp (disch := omega) only [if_pos, if_neg, w64, rdn, rd0, tn, sc, Option.bind_some, ↓reduceIte, Bool.false_eq_true, Bool.true_eq_false]
        refine ih (i + 1) (by omega) (by omega) ?_
        intro j hji
        by_cases e' : j = i
        · subst e'; omega
        · exact hj j (by omega)
theorem impl_StateOk_ev (a : Int) (l : List Int) (hl : l.length ≤ 1048576) : Ev (fun k => impl_StateOk.f k a l) (decide (StateP a l)) := by
  unfold impl_StateOk.f
  exact impl_StateOk_l0 a l hl _ 0 rfl (by omega) (fun j h => by omega)

theorem impl_asked_ev (net s : List Int) (kinds : Int) (hn : net.length ≤ 1048576) (hs : s.length ≤ 1048576) : Ev (fun k => impl_asked.f k net kinds s) (decide (Asked net kinds s)) := by
  unfold impl_asked.f
  refine Ev.bind (impl_NetOk_ev net hn) ?_
  by_cases h1 : NetP net
  · simp only [h1, decide_true]
    simp (disch := omega) only [if_pos, if_neg, w64, rdn, rd0, tn, sc, Option.bind_some, ↓reduceIte, Bool.false_eq_true, Bool.true_eq_false]
    refine Ev.bind (impl_StateOk_ev kinds s hs) ?_
    by_cases h2 : StateP kinds s
    · simp only [h2, decide_true]
      simp (disch := omega) only [if_pos, if_neg, w64, rdn, rd0, tn, sc, Option.bind_some, ↓reduceIte, Bool.false_eq_true, Bool.true_eq_false]
      refine Ev.val ?_
      rw [Bool.eq_iff_iff, beq_iff_eq, decide_eq_true_eq]
      unfold Asked
      constructor
      · intro h; exact ⟨h1, h2, by omega⟩
      · intro h; have := h.2.2; omega
    · simp only [h2, decide_false]
      simp (disch := omega) only [if_pos, if_neg, w64, rdn, rd0, tn, sc, Option.bind_some, ↓reduceIte, Bool.false_eq_true, Bool.true_eq_false]
      have : ¬ Asked net kinds s := fun h => h2 h.2.1
      exact Ev.val (by simp [this])
  · simp only [h1, decide_false]
    simp (disch := omega) only [if_pos, if_neg, w64, rdn, rd0, tn, sc, Option.bind_some, ↓reduceIte, Bool.false_eq_true, Bool.true_eq_false]
    have : ¬ Asked net kinds s := fun h => h1 h.1
    exact Ev.val (by simp [this])

theorem impl_rise_eq (l : List Int) (hl : ∀ i, i < l.length → 0 ≤ G l i ∧ G l i < 3) {i j : Nat} (hi : i < l.length) (hj : j < l.length) : impl_rise.f l (i : Int) (j : Int) = some (rise (G l i) (G l j)) := by
  have ha := hl i hi
  have hb := hl j hj
  unfold impl_rise.f
  have h1 : wrap64 (G l j - G l i) = G l j - G l i := w64 (by omega) (by omega)
  have h2 : wrap64 (G l j - G l i + 3) = G l j - G l i + 3 := w64 (by omega) (by omega)
  have h3 : Int.tmod (G l j - G l i + 3) 3 = (G l j - G l i + 3) % 3 := tmod_nn (by omega)
  simp only [rdn, h1, h2, h3]
  unfold rise
  by_cases e1 : (G l j - G l i + 3) % 3 = 1
  · simp (disch := omega) only [if_pos, if_neg, w64, rdn, rd0, tn, sc, Option.bind_some, ↓reduceIte, Bool.false_eq_true, Bool.true_eq_false]
    congr 1; omega
  · by_cases e2 : (G l j - G l i + 3) % 3 = 2
    · simp (disch := omega) only [if_pos, if_neg, w64, rdn, rd0, tn, sc, Option.bind_some, ↓reduceIte, Bool.false_eq_true, Bool.true_eq_false]
      congr 1; omega
    · simp (disch := omega) only [if_pos, if_neg, w64, rdn, rd0, tn, sc, Option.bind_some, ↓reduceIte, Bool.false_eq_true, Bool.true_eq_false]
      congr 1; omega

-- needs Best
def rowsN (net s : List Int) (q : Nat) : List (List Int) := (List.range q).map (fun m => mk s.length (jst net s m))
theorem rowsN_length (net s : List Int) (q : Nat) : (rowsN net s q).length = q := by simp [rowsN]
theorem rowsN_succ (net s : List Int) (q : Nat) : rowsN net s q ++ [mk s.length (jst net s q)] = rowsN net s (q + 1) := by simp [rowsN, List.range_succ]
theorem rd_rowsN {net s : List Int} {q m : Nat} (h : m < q) : rd_L1 (rowsN net s q) (m : Int) = mk s.length (jst net s m) := by
  show (rowsN net s q).getD m [] = _
  simp [rowsN, List.getD, List.getElem?_map, List.getElem?_range h]
theorem jst_bd (net s : List Int) (n i : Nat) : -1000 ≤ jst net s n i ∧ jst net s n i ≤ n := by
  refine ⟨?_, jst_le net s n i⟩
  cases n with
  | zero => show -1000 ≤ (0 : Int); omega
  | succ n => exact maxA_init net i (fun j => rise (G s i) (G s j) + jst net s n j) (-1000) s.length
theorem impl_BestTour_l2 (net s : List Int) (h : Asked net 3 s) (a t b : Int) (m i : Nat) (hi : i < s.length) (hm : m ≤ 12) (r : List Int)
    (hend : ∀ x : List Int, x.length = s.length → (∀ p, p < s.length → G x p = if p < i + 1 then jst net s (m + 1) p else 0) → Ev (fun k => impl_BestTour.l1 k net s a t (rowsN net s (m + 1)) b ((m + 1 : Nat) : Int) x (s.length : Int) ((i + 1 : Nat) : Int)) r) :
    ∀ (d j : Nat) (x : List Int), s.length - j = d → j ≤ s.length → x.length = s.length →
      (∀ p, p < s.length → p ≠ i → G x p = if p < i then jst net s (m + 1) p else 0) →
      G x i = maxA net i (fun j => rise (G s i) (G s j) + jst net s m j) (-1000) j →
      Ev (fun k => impl_BestTour.l2 k net s a t (rowsN net s (m + 1)) b ((m + 1 : Nat) : Int) x (i : Int) (s.length : Int) (i : Int) (s.length : Int) (j : Int)) r := by
  intro d
  have h6 := asked6 h
  have hl := h.2.2
  induction d with
  | zero =>
    intro j x hd hj hx hp hi'
    refine Ev.step (fun k => impl_BestTour.l2.eq_2 ..) ?_
    have hend' := hend x hx (fun p hpl => by
      by_cases e : p = i
      · subst e; rw [if_pos (by omega), hi', show j = s.length from by omega]; rfl
      · rw [hp p hpl e]
        by_cases e3 : p < i
        · rw [if_pos e3, if_pos (by omega)]
        · rw [if_neg e3, if_neg (by omega)])
    have e0 : ¬ ((j : Int) < (s.length : Int)) := by omega
    have hw : wrap64 ((i : Int) + 1) = ((i + 1 : Nat) : Int) := by rw [w64 (by omega) (by omega)]; omega
    simp only [e0, if_false, hw]
    exact hend'
  | succ d ih =>
    intro j x hd hj hx hp hi'
    refine Ev.step (fun k => impl_BestTour.l2.eq_2 ..) ?_
    have hjs : j < s.length := by omega
    have g1 : s.length - (j + 1) = d := by omega
    have g2 : j + 1 ≤ s.length := by omega
    have g3 : i < x.length := by omega
    have hb := bit_and (G net i) (j := j) (by omega)
    have er := impl_rise_eq s h.2.1.2.2.2.2 (show i < s.length by omega) hjs
    have hr := rise_le (G s i) (G s j)
    have hbd := jst_bd net s m j
    have hmx : mx (G x i) (rise (G s i) (G s j) + jst net s m j) = mxi (G x i) (rise (G s i) (G s j) + jst net s m j) := rfl
    have c1 : (j : Int) < (s.length : Int) := by omega
    have c2 : 0 ≤ (j : Int) := by omega
    have c3 : 0 ≤ (i : Int) := by omega
    have c4 : (i : Int) < (net.length : Int) := by omega
    have c5 : (i : Int) < (x.length : Int) := by omega
    have hw : wrap64 ((j : Int) + 1) = ((j + 1 : Nat) : Int) := by rw [w64 (by omega) (by omega)]; omega
    have hwm : wrap64 (((m + 1 : Nat) : Int) - 1) = (m : Int) := by rw [w64 (by omega) (by omega)]; omega
    have c6 : 0 ≤ (m : Int) := by omega
    have c7' : (m : Int) < ((m + 1 : Nat) : Int) := by omega
    have erd := rd_rowsN (net := net) (s := s) (show m < m + 1 by omega)
    have eg : G (mk s.length (jst net s m)) j = jst net s m j := G_mk (jst net s m) hjs
    have hw2 : wrap64 (rise (G s i) (G s j) + jst net s m j) = rise (G s i) (G s j) + jst net s m j := w64 (by omega) (by omega)
    by_cases e1 : G net i / 2 ^ j % 2 = 1
    · have e2 : maxA net i (fun j => rise (G s i) (G s j) + jst net s m j) (-1000) (j + 1) = mxi (G x i) (rise (G s i) (G s j) + jst net s m j) := by
        simp only [maxA]; rw [if_pos (show adj net i j from e1), hi']
      have c7 : (m : Int) < ((rowsN net s (m + 1)).length : Int) := by rw [rowsN_length]; exact c7'
      simp only [c1, c2, c3, c4, c5, c6, c7, if_true, rdn, tn, hb, e1, er, Option.bind_some, hwm, erd, mk_length, eg, hw2, hmx, hw]
      clear c7 erd eg hw2 hmx er hb hbd
      refine ih (j + 1) _ g1 g2 (by rw [List.length_set]; exact hx) ?_ ?_
      · intro p hpl hpi
        rw [G_set_ne _ hpi]; exact hp p hpl hpi
      · rw [G_set_self _ g3, e2]
    · clear erd eg hw2 hmx hbd
      have e2 : maxA net i (fun j => rise (G s i) (G s j) + jst net s m j) (-1000) (j + 1) = G x i := by
        simp only [maxA]; rw [if_neg (show ¬ adj net i j from e1), hi']
      simp only [c1, c2, c3, c4, if_true, rdn, hb, e1, if_false, hw]
      exact ih (j + 1) x g1 g2 hx hp e2.symm
theorem impl_BestTour_l1 (net s : List Int) (h : Asked net 3 s) (a t b : Int) (m : Nat) (hm : m ≤ 12) (r : List Int)
    (hend : Ev (fun k => impl_BestTour.l1 k net s a t (rowsN net s (m + 1)) b ((m + 1 : Nat) : Int) (mk s.length (jst net s (m + 1))) (s.length : Int) (s.length : Int)) r) :
    ∀ (d i : Nat) (x : List Int), s.length - i = d → i ≤ s.length → x.length = s.length →
      (∀ p, p < s.length → G x p = if p < i then jst net s (m + 1) p else 0) →
      Ev (fun k => impl_BestTour.l1 k net s a t (rowsN net s (m + 1)) b ((m + 1 : Nat) : Int) x (s.length : Int) (i : Int)) r := by
  intro d
  have h6 := asked6 h
  have hl := h.2.2
  induction d with
  | zero =>
    intro i x hd hi hx hp
    obtain rfl : i = s.length := by omega
    have e : x = mk s.length (jst net s (m + 1)) := mk_eq_iff.2 ⟨hx, fun p hpl => by rw [hp p hpl, if_pos hpl]⟩
    rw [e]
    exact hend
  | succ d ih =>
    intro i x hd hi hx hp
    refine Ev.step (fun k => impl_BestTour.l1.eq_2 ..) ?_
    have c1 : (i : Int) < (s.length : Int) := by omega
    have c2 : 0 ≤ (i : Int) := by omega
    have c3 : (i : Int) < (x.length : Int) := by omega
    simp only [c1, c2, c3, if_true, hl, tn]
    refine impl_BestTour_l2 net s h a t b m i (by omega) hm r (fun y hy hq => ih (i + 1) y (by omega) (by omega) hy hq) _ 0 _ rfl (by omega) (by simp [hx]) (fun p hpl hpi => ?_) ?_
    · rw [G_set_ne _ hpi]; exact hp p hpl
    · rw [G_set_self _ (by omega)]; rfl
theorem BestTour_wl1 (l : Nat) (h : (l : Int) ≤ 11) : wrap64 (((l + 1 : Nat) : Int) - 1) = (l : Int) := by rw [w64 (by omega) (by omega)]; omega
theorem impl_BestTour_l4 (net s : List Int) (h : Asked net 3 s) (q l i : Nat) (hq : l + 1 < q) (hl11 : l ≤ 11) (hi : i < s.length) (hw : Wired net s i) (P : List Int) (hP : P.length ≤ 30) (r : List Int)
    (hend : Ev (fun k => impl_BestTour.l3 k net s (rowsN net s q) (P ++ [((nextOf net s l i : Nat) : Int)]) (l : Int)) r) : ∀ (d j : Nat), j + d = s.length →
    firstP (fun j => adj net i j ∧ rise (G s i) (G s j) + jst net s l j = jst net s (l + 1) i) d j = nextOf net s l i →
    Ev (fun k => impl_BestTour.l4 k net s (rowsN net s q) P ((l + 1 : Nat) : Int) (i : Int) (s.length : Int) (j : Int)) r := by
  intro d
  have h6 := asked6 h
  have hl := h.2.2
  induction d with
  | zero =>
    intro j hd hf
    have n1 := (nextOf_spec h (l := l) (Nat.le_trans hl11 (by decide)) hi hw).1
    have e : j = nextOf net s l i := hf
    rw [← e] at n1
    clear hf e hend
    omega
  | succ d ih =>
    intro j hd
    have hjs : j < s.length := by omega
    have g1 : j + 1 + d = s.length := by omega
    have hr := rise_le (G s i) (G s j)
    have jb := jst_bd net s l j
    have v1 : -9223372036854775808 ≤ rise (G s i) (G s j) + jst net s l j := by omega
    have v2 : rise (G s i) (G s j) + jst net s l j ≤ 9223372036854775807 := by omega
    clear jb hr
    have j64 : j ≤ 64 := by omega
    have v3 : -9223372036854775808 ≤ (j : Int) + 1 := by omega
    have v4 : (j : Int) + 1 ≤ 9223372036854775807 := by omega
    have v5 : (l : Int) ≤ 11 := by omega
    have v6 : 0 ≤ (l : Int) := by omega
    have c1 : (j : Int) < (s.length : Int) := by omega
    have c2 : 0 ≤ (j : Int) := by omega
    have c3 : 0 ≤ (i : Int) := by omega
    have c4 : (i : Int) < (net.length : Int) := by omega
    have c6 : 0 ≤ (l : Int) := v6
    have hlq : l < q := Nat.lt_of_succ_lt hq
    have c7' : (l : Int) < (q : Int) := Int.ofNat_lt.2 hlq
    have c8 : 0 ≤ ((l + 1 : Nat) : Int) := Int.natCast_nonneg _
    have c9' : ((l + 1 : Nat) : Int) < (q : Int) := Int.ofNat_lt.2 hq
    have c10 : (i : Int) < (s.length : Int) := Int.ofNat_lt.2 hi
    have c11 : P.length < 17592186044416 := Nat.lt_of_le_of_lt hP (by decide)
    have hb := bit_and (G net i) (j := j) j64
    have er := impl_rise_eq s h.2.1.2.2.2.2 hi hjs
    have hw1 : wrap64 ((j : Int) + 1) = ((j + 1 : Nat) : Int) := w64 v3 v4
    have hwl : wrap64 (((l + 1 : Nat) : Int) - 1) = (l : Int) := BestTour_wl1 l v5
    have hw2 : wrap64 (rise (G s i) (G s j) + jst net s l j) = rise (G s i) (G s j) + jst net s l j := w64 v1 v2
    have erd := rd_rowsN (net := net) (s := s) hlq
    have erd2 := rd_rowsN (net := net) (s := s) hq
    have eg : G (mk s.length (jst net s l)) j = jst net s l j := G_mk (jst net s l) hjs
    have eg2 : G (mk s.length (jst net s (l + 1))) i = jst net s (l + 1) i := G_mk (jst net s (l + 1)) hi
    intro hf
    refine Ev.step (fun k => impl_BestTour.l4.eq_2 ..) ?_
    have hfs : firstP (fun j => adj net i j ∧ rise (G s i) (G s j) + jst net s l j = jst net s (l + 1) i) (d + 1) j = if adj net i j ∧ rise (G s i) (G s j) + jst net s l j = jst net s (l + 1) i then j else firstP (fun j => adj net i j ∧ rise (G s i) (G s j) + jst net s l j = jst net s (l + 1) i) d (j + 1) := rfl
    rw [hfs] at hf
    clear hfs
    by_cases e1 : G net i / 2 ^ j % 2 = 1
    · have c7 : (l : Int) < ((rowsN net s q).length : Int) := by rw [rowsN_length]; exact c7'
      have c9 : ((l + 1 : Nat) : Int) < ((rowsN net s q).length : Int) := by rw [rowsN_length]; exact c9'
      simp only [c1, c2, c3, c4, c6, c7, c8, c9, c10, if_true, rdn, hb, e1, er, Option.bind_some, hwl, erd, erd2, mk_length, eg, eg2, hw2, hw1]
      clear c7 c9 erd erd2 eg eg2 hw2
      by_cases e2 : rise (G s i) (G s j) + jst net s l j = jst net s (l + 1) i
      · rw [if_pos ⟨e1, e2⟩] at hf
        simp only [e2, if_true, c11]
        rw [← hf] at hend
        exact hend
      · rw [if_neg (fun g => e2 g.2)] at hf
        simp only [e2, if_false]
        exact ih (j + 1) g1 hf
    · clear erd erd2 eg eg2 hw2
      rw [if_neg (fun g => e1 g.1)] at hf
      simp only [c1, c2, c3, c4, if_true, rdn, hb, e1, if_false, hw1]
      exact ih (j + 1) g1 hf
theorem impl_BestTour_l3 (net s : List Int) (h : Asked net 3 s) (q : Nat) : ∀ (l i : Nat) (P : List Int), l < q → l ≤ 11 → i < s.length → (l = 0 ∨ Wired net s i) → P.length + l ≤ 20 →
    Ev (fun k => impl_BestTour.l3 k net s (rowsN net s q) (P ++ [(i : Int)]) (l : Int)) (P ++ [(i : Int)] ++ route net s l i) := by
  intro l
  have h6 := asked6 h
  have hl := h.2.2
  induction l with
  | zero =>
    intro i P hq h11 hi hw hP
    refine Ev.step (fun k => impl_BestTour.l3.eq_2 ..) ?_
    have e0 : ¬ (((0 : Nat) : Int) > 0) := by omega
    simp only [e0, if_false]
    exact Ev.val (by show _ = _ ++ []; rw [List.append_nil])
  | succ l ih =>
    intro i P hq h11 hi hw hP
    have hw' : Wired net s i := hw.elim (fun e => by omega) id
    have q1 : l < q := by omega
    have q2 : l ≤ 11 := by omega
    have q3 : P.length + 1 + l ≤ 20 := by omega
    have q4 : P.length + 1 ≤ 30 := by omega
    have q5 : l ≤ 100 := by omega
    have e1 : wrap64 (((P.length + 1 : Nat) : Int) - 1) = (P.length : Int) := by rw [w64 (by omega) (by omega)]; omega
    have e2 : (P.length : Int) < ((P.length + 1 : Nat) : Int) := by omega
    have c1 : ((l + 1 : Nat) : Int) > 0 := by omega
    have c2 : 0 ≤ (P.length : Int) := by omega
    have e3 : 0 + s.length = s.length := Nat.zero_add _
    obtain ⟨n1, n2, n3⟩ := nextOf_spec h (l := l) q5 hi hw'
    have lP : (P ++ [(i : Int)]).length = P.length + 1 := by rw [List.length_append]; rfl
    have ih' := ih (nextOf net s l i) (P ++ [(i : Int)]) q1 q2 n1 (Or.inr (wired_adj h hi n1 n2)) (by rw [lP]; exact q3)
    refine Ev.step (fun k => impl_BestTour.l3.eq_2 ..) ?_
    have hw1 : wrap64 (((P ++ [(i : Int)]).length : Int) - 1) = (P.length : Int) := by rw [lP]; exact e1
    have c3 : (P.length : Int) < ((P ++ [(i : Int)]).length : Int) := by rw [lP]; exact e2
    have eg : G (P ++ [(i : Int)]) P.length = (i : Int) := by rw [G_append_right (Nat.le_refl _), Nat.sub_self]; rfl
    simp only [c1, if_true, hw1, c2, c3, rdn, eg, hl]
    refine impl_BestTour_l4 net s h q l i hq q2 hi hw' (P ++ [(i : Int)]) (by rw [lP]; exact q4) _ ?_ s.length 0 e3 rfl
    have er : P ++ [(i : Int)] ++ route net s (l + 1) i = P ++ [(i : Int)] ++ [((nextOf net s l i : Nat) : Int)] ++ route net s l (nextOf net s l i) := by
      show P ++ [(i : Int)] ++ (((nextOf net s l i : Nat) : Int) :: route net s l (nextOf net s l i)) = _
      simp
    rw [er]
    exact ih'
theorem impl_BestTour_l0 (net s : List Int) (h : Asked net 3 s) (a t : Nat) (ha : a < s.length) (ht : t ≤ 11) : ∀ (d m b : Nat), m + d = t → FewP net s m a b →
    Ev (fun k => impl_BestTour.l0 k net s (a : Int) (t : Int) (rowsN net s (m + 1)) (b : Int) ((m + 1 : Nat) : Int)) (bestTour net s (a : Int) (t : Int)) := by
  intro d
  have h6 := asked6 h
  have hl := h.2.2
  induction d with
  | zero =>
    intro m b hd hb
    obtain rfl : m = t := by omega
    refine Ev.step (fun k => impl_BestTour.l0.eq_2 ..) ?_
    have e0 : ¬ (((m + 1 : Nat) : Int) ≤ (m : Int)) := by omega
    simp only [e0, if_false]
    rw [bestTour_eq h (by omega) (by omega) hb]
    have hbm := hb.1
    have g := impl_BestTour_l3 net s h (m + 1) b a [] (by omega) (by omega) ha (few_wired h ha hb) (by show 0 + b ≤ 20; omega)
    exact g
  | succ d ih =>
    intro m b hd hb
    have hbm := hb.1
    refine Ev.step (fun k => impl_BestTour.l0.eq_2 ..) ?_
    have c1 : ((m + 1 : Nat) : Int) ≤ (t : Int) := by omega
    have c2 : 0 ≤ (s.length : Int) := by omega
    have c3 : s.length ≤ 35184372088832 := by omega
    simp only [c1, if_true, hl, c2, tn, c3]
    refine impl_BestTour_l1 net s h (a : Int) (t : Int) (b : Int) m (by omega) _ ?_ _ 0 _ rfl (by omega) (by simp) (fun p hp => by rw [replicate_mk, G_mk _ hp, if_neg (by omega)])
    refine Ev.step (fun k => impl_BestTour.l1.eq_2 ..) ?_
    have e0 : ¬ ((s.length : Int) < (s.length : Int)) := by omega
    have c4' : m + 1 < 5864062014805 := by omega
    have c5 : 0 ≤ (a : Int) := by omega
    have c6 : (a : Int) < (s.length : Int) := by omega
    have c7 : 0 ≤ (b : Int) := by omega
    have c8' : (b : Int) < ((m + 1 + 1 : Nat) : Int) := by omega
    have erd := rd_rowsN (net := net) (s := s) (show b < m + 1 + 1 by omega)
    have eg : G (mk s.length (jst net s b)) a = jst net s b a := G_mk (jst net s b) ha
    have eg2 : G (mk s.length (jst net s (m + 1))) a = jst net s (m + 1) a := G_mk (jst net s (m + 1)) ha
    have hw : wrap64 (((m + 1 : Nat) : Int) + 1) = ((m + 1 + 1 : Nat) : Int) := by rw [w64 (by omega) (by omega)]; omega
    have c4 : (rowsN net s (m + 1)).length < 5864062014805 := by rw [rowsN_length]; exact c4'
    have c8 : (b : Int) < ((rowsN net s (m + 1 + 1)).length : Int) := by rw [rowsN_length]; exact c8'
    simp only [e0, if_false, c4, if_true, Option.bind_some, rowsN_succ, mk_length, c5, c6, c7, c8, erd, rdn, eg, eg2, hw]
    clear c4 c8 erd eg eg2
    obtain ⟨hn1, hn2⟩ := few_next h ha hb
    by_cases g : jst net s (m + 1) a > jst net s b a
    · simp only [g, if_true]
      exact ih (m + 1) (m + 1) (by omega) (hn1 g)
    · simp only [g, if_false]
      exact ih (m + 1) b (by omega) (hn2 g)
theorem impl_BestTour_ev (net s : List Int) (a t : Int) (hn : net.length ≤ 1048576) (hs : s.length ≤ 1048576) : Ev (fun k => impl_BestTour.f k net s a t) (bestTour net s a t) := by
  have hj : ¬ (Asked net 3 s ∧ 0 ≤ t ∧ t < 12 ∧ 0 ≤ a ∧ a < net.length) → Ev (fun k => impl_BestTour.j0 k net s a t true) (bestTour net s a t) := fun g => by
    rw [bestTour_no g]
    refine Ev.step (fun k => impl_BestTour.j0.eq_2 ..) ?_
    simp only [if_true]
    exact Ev.now _
  unfold impl_BestTour.f
  refine Ev.bind (impl_asked_ev net s 3 hn hs) ?_
  by_cases h : Asked net 3 s
  · simp only [h, decide_true, if_true]
    have h6 := asked6 h
    have hl := h.2.2
    by_cases h1 : t < 0
    · simp only [h1, if_true]
      exact hj (fun g => by omega)
    · by_cases h2 : t ≥ 12
      · simp only [h1, h2, if_true, if_false]
        exact hj (fun g => by omega)
      · by_cases h3 : a < 0
        · simp only [h1, h2, h3, if_true, if_false]
          exact hj (fun g => by omega)
        · by_cases h4 : a ≥ (net.length : Int)
          · simp only [h1, h2, h3, h4, if_false, decide_true]
            exact hj (fun g => by omega)
          · simp only [h1, h2, h3, h4, if_false, decide_false]
            obtain ⟨i, rfl⟩ := Int.eq_ofNat_of_zero_le (show 0 ≤ a by omega)
            obtain ⟨q, rfl⟩ := Int.eq_ofNat_of_zero_le (show 0 ≤ t by omega)
            refine Ev.step (fun k => impl_BestTour.j0.eq_2 ..) ?_
            have c2 : 0 ≤ (net.length : Int) := by omega
            have c3 : net.length ≤ 35184372088832 := by omega
            simp only [Bool.false_eq_true, if_false, c2, tn, c3, if_true]
            have g := impl_BestTour_l0 net s h i q (by omega) (by omega) q 0 0 (by omega) (few_zero net s i)
            have er : rowsN net s (0 + 1) = [List.replicate net.length 0] := by
              rw [replicate_mk, hl]; rfl
            rw [er] at g
            exact g
  · simp only [h, decide_false, Bool.false_eq_true, if_false]
    exact hj (fun g => h g.1)

/-- A reader's bytes. -/
def RdOk (b : List Int) : Prop := b.length ≤ 2000 ∧ ∀ i, 0 ≤ G b i ∧ G b i ≤ 255
theorem spec_l20Open_eq (l : List Int) (h : ∀ x ∈ l, (Lit.int .u8 x).wf = true) : ∃ b, spec_l20Open.f l = some (b, 0) ∧ RdOk b := by
  have hl : ∀ i, 0 ≤ G l i ∧ G l i ≤ 255 := by
    intro i
    by_cases e : i < l.length
    · exact wf_u8.1 (h _ (G_mem e))
    · rw [G_of_ge (by omega)]; omega
  unfold spec_l20Open.f
  by_cases e : l.length > 2000
  · simp (disch := omega) only [if_pos, if_neg, w64, rdn, rd0, tn, sc, Option.bind_some, ↓reduceIte, Bool.false_eq_true, Bool.true_eq_false]
    refine ⟨_, rfl, by simp; omega, fun i => ?_⟩
    by_cases ei : i < 2000
    · rw [G_take ei]; exact hl i
    · rw [G_of_ge (by simp; omega)]; omega
  · simp (disch := omega) only [if_pos, if_neg, w64, rdn, rd0, tn, sc, Option.bind_some, ↓reduceIte, Bool.false_eq_true, Bool.true_eq_false]
    exact ⟨_, rfl, by omega, hl⟩

theorem xor_nn {a b : Int} (ha : 0 ≤ a) (ha' : a < 4611686018427387904) (hb : 0 ≤ b) (hb' : b < 4611686018427387904) : 0 ≤ Go.bits .xor .i64 a b := by
  obtain ⟨m, rfl⟩ := Int.eq_ofNat_of_zero_le ha
  obtain ⟨n, rfl⟩ := Int.eq_ofNat_of_zero_le hb
  show 0 ≤ IntKind.i64.wrap (((BitVec.ofInt 64 (m : Int) ^^^ BitVec.ofInt 64 (n : Int)).toNat : Nat) : Int)
  have hx : (BitVec.ofInt 64 (m : Int) ^^^ BitVec.ofInt 64 (n : Int)).toNat < 2 ^ 62 := by
    rw [BitVec.toNat_xor]
    apply Nat.xor_lt_two_pow
    · rw [BitVec.ofInt_natCast, BitVec.toNat_ofNat, Nat.mod_eq_of_lt (by omega)]; omega
    · rw [BitVec.ofInt_natCast, BitVec.toNat_ofNat, Nat.mod_eq_of_lt (by omega)]; omega
  rw [i64_w, w64 (by omega) (by omega)]; omega
theorem pick_ev (b : List Int) (hb : RdOk b) (p n : Int) (hp : 0 ≤ p) (hp2 : p ≤ 1000000) (hn : n ≤ 1000000) :
    ∃ v, Ev (fun k => spec_l20Rd_pick.f k b p n) (v, p + 1) ∧ 0 ≤ v ∧ (1 ≤ n → v < n) ∧ (n < 1 → v = 0) := by
  obtain ⟨q, rfl⟩ := Int.eq_ofNat_of_zero_le hp
  unfold spec_l20Rd_pick.f
  have hw : wrap64 ((q : Int) + 1) = (q : Int) + 1 := w64 (by omega) (by omega)
  have hw2 : wrap64 ((q : Int) + 1 - 1) = (q : Int) := by rw [w64 (by omega) (by omega)]; omega
  by_cases h1 : n < 1
  · refine ⟨0, ?_, by omega, fun h => by omega, fun _ => rfl⟩
    simp only [hw]
    rw [show (fun k => if n < 1 then spec_l20Rd_pick.j0 k n true b ((q : Int) + 1) else spec_l20Rd_pick.j0 k n ((b.length : Int) == 0) b ((q : Int) + 1)) = (fun k => spec_l20Rd_pick.j0 k n true b ((q : Int) + 1)) from funext fun k => if_pos h1]
    refine Ev.step (fun k => spec_l20Rd_pick.j0.eq_2 ..) ?_
    simp only [↓reduceIte]
    exact Ev.now _
  · simp only [hw]
    rw [show (fun k => if n < 1 then spec_l20Rd_pick.j0 k n true b ((q : Int) + 1) else spec_l20Rd_pick.j0 k n ((b.length : Int) == 0) b ((q : Int) + 1)) = (fun k => spec_l20Rd_pick.j0 k n ((b.length : Int) == 0) b ((q : Int) + 1)) from funext fun k => if_neg h1]
    by_cases h0 : b.length = 0
    · refine ⟨0, ?_, by omega, fun h => by omega, fun _ => rfl⟩
      have : ((b.length : Int) == 0) = true := beq_iff_eq.2 (by omega)
      rw [this]
      refine Ev.step (fun k => spec_l20Rd_pick.j0.eq_2 ..) ?_
      simp only [↓reduceIte]
      exact Ev.now _
    · have hz : ((b.length : Int) == 0) = false := beq_eq_false_iff_ne.2 (by omega)
      rw [hz]
      by_cases hq : q < b.length
      · have hg := hb.2 q
        have hwg : wrap64 (G b q) = G b q := w64 (by omega) (by omega)
        refine ⟨G b q % n, ?_, Int.emod_nonneg _ (by omega), fun h => Int.emod_lt_of_pos _ (by omega), fun h => absurd h h1⟩
        refine Ev.step (fun k => spec_l20Rd_pick.j0.eq_2 ..) ?_
        simp only [hw2, rdn, hwg]
        rw [tmod_nn hg.1]
        simp (disch := omega) only [if_pos, if_neg, w64, rdn, rd0, tn, sc, Option.bind_some, ↓reduceIte, Bool.false_eq_true, Bool.true_eq_false]
        exact Ev.now _
      · have hL := hb.1
        have hm1 : q % b.length < b.length := Nat.mod_lt _ (by omega)
        have hm2 : (q * 7 + 3) % b.length < b.length := Nat.mod_lt _ (by omega)
        have e1 : Int.tmod (q : Int) (b.length : Int) = ((q % b.length : Nat) : Int) := by rw [tmod_nn (by omega)]; rfl
        have e2 : wrap64 (wrap64 ((q : Int) * 7) + 3) = ((q * 7 + 3 : Nat) : Int) := by rw [w64 (n := (q : Int) * 7) (by omega) (by omega), w64 (by omega) (by omega)]; omega
        have e3 : Int.tmod ((q * 7 + 3 : Nat) : Int) (b.length : Int) = (((q * 7 + 3) % b.length : Nat) : Int) := by rw [tmod_nn (by omega)]; rfl
        obtain ⟨Q, hQ⟩ : ∃ Q, Q = q / b.length := ⟨_, rfl⟩
        have hd : Q ≤ q := by rw [hQ]; exact Nat.div_le_self _ _
        have e4 : Int.tdiv (q : Int) (b.length : Int) = (Q : Int) := by rw [tdiv_nn (by omega), hQ]; rfl
        clear hQ
        have g1 := hb.2 (q % b.length)
        have g2 := hb.2 ((q * 7 + 3) % b.length)
        have f1 : wrap64 (wrap64 (G b (q % b.length)) * 131) = G b (q % b.length) * 131 := by rw [w64 (n := G b (q % b.length)) (by omega) (by omega), w64 (by omega) (by omega)]
        have f2 : wrap64 (wrap64 (G b ((q * 7 + 3) % b.length)) * 1117) = G b ((q * 7 + 3) % b.length) * 1117 := by rw [w64 (n := G b ((q * 7 + 3) % b.length)) (by omega) (by omega), w64 (by omega) (by omega)]
        have f3 : wrap64 ((q : Int) * 29) = (q : Int) * 29 := w64 (by omega) (by omega)
        have f4 : wrap64 (wrap64 ((Q : Int)) * 53) = (Q : Int) * 53 := by rw [w64 (n := (Q : Int)) (by omega) (by omega), w64 (by omega) (by omega)]
        have f5 : wrap64 (G b (q % b.length) * 131 + G b ((q * 7 + 3) % b.length) * 1117) = G b (q % b.length) * 131 + G b ((q * 7 + 3) % b.length) * 1117 := w64 (by omega) (by omega)
        have f6 : wrap64 (G b (q % b.length) * 131 + G b ((q * 7 + 3) % b.length) * 1117 + (q : Int) * 29) = G b (q % b.length) * 131 + G b ((q * 7 + 3) % b.length) * 1117 + (q : Int) * 29 := w64 (by omega) (by omega)
        have f7 : wrap64 (G b (q % b.length) * 131 + G b ((q * 7 + 3) % b.length) * 1117 + (q : Int) * 29 + (Q : Int) * 53) = G b (q % b.length) * 131 + G b ((q * 7 + 3) % b.length) * 1117 + (q : Int) * 29 + (Q : Int) * 53 := w64 (by omega) (by omega)
        obtain ⟨X, hX⟩ : ∃ X, X = G b (q % b.length) * 131 + G b ((q * 7 + 3) % b.length) * 1117 + (q : Int) * 29 + (Q : Int) * 53 := ⟨_, rfl⟩
        have hX0 : 0 ≤ X := by omega
        have hX1 : X < 4611686018427387904 := by omega
        have f8 : wrap64 (Int.tdiv X 64) = X / 64 := by rw [tdiv_nn hX0, w64 (by omega) (by omega)]
        have f9 : wrap64 X = X := w64 (by omega) (by omega)
        have hx := xor_nn hX0 hX1 (b := X / 64) (by omega) (by omega)
        refine ⟨Go.bits .xor .i64 X (X / 64) % n, ?_, Int.emod_nonneg _ (by omega), fun h => Int.emod_lt_of_pos _ (by omega), fun h => absurd h h1⟩
        refine Ev.step (fun k => spec_l20Rd_pick.j0.eq_2 ..) ?_
        simp only [hw2, e1, e2, e3, e4, rdn, f1, f2, f3, f4, f5, f6, f7, ← hX, f9, f8]
        rw [tmod_nn hx]
        simp (disch := omega) only [if_pos, if_neg, w64, rdn, rd0, tn, sc, Option.bind_some, ↓reduceIte, Bool.false_eq_true, Bool.true_eq_false]
        exact Ev.now _

theorem odd_ev (b : List Int) (hb : RdOk b) (p n : Int) (hp : 0 ≤ p) (hp2 : p ≤ 1000000) (hn : n ≤ 1000000) :
    ∃ c p', Ev (fun k => spec_l20Rd_odd.f k b p n) (c, p') ∧ p ≤ p' ∧ p' ≤ p + 1 ∧ (n ≤ 0 → c = false) := by
  unfold spec_l20Rd_odd.f
  by_cases h : n > 0
  · obtain ⟨v, hv, _⟩ := pick_ev b hb p n hp hp2 hn
    refine ⟨v == wrap64 (n - 1), p + 1, ?_, by omega, by omega, fun h' => by omega⟩
    simp (disch := omega) only [if_pos, if_neg, w64, rdn, rd0, tn, sc, Option.bind_some, ↓reduceIte, Bool.false_eq_true, Bool.true_eq_false]
    refine Ev.bind hv ?_
    exact Ev.now _
  · refine ⟨false, p, ?_, by omega, by omega, fun _ => rfl⟩
    simp (disch := omega) only [if_pos, if_neg, w64, rdn, rd0, tn, sc, Option.bind_some, ↓reduceIte, Bool.false_eq_true, Bool.true_eq_false]
    exact Ev.now _

theorem PathNet_l0 (n : Nat) (h1 : 1 ≤ n) (h6 : n ≤ 6) : ∀ (d i : Nat) (x : List Int), n - i = d → i ≤ n → x.length = i → ∃ r, Ev (fun k => spec_PathNet.l0 k (n : Int) x (i : Int)) r ∧ r.length = n := by
  intro d
  induction d with
  | zero =>
    intro i x hd hi hx
    refine ⟨x, ?_, by omega⟩
    refine Ev.step (fun k => spec_PathNet.l0.eq_2 ..) ?_
    simp (disch := omega) only [if_pos, if_neg, w64, rdn, rd0, tn, sc, Option.bind_some, ↓reduceIte, Bool.false_eq_true, Bool.true_eq_false]
    refine Ev.step (fun k => spec_PathNet.j1.eq_2 ..) ?_
    simp (disch := omega) only [if_pos, if_neg, w64, rdn, rd0, tn, sc, Option.bind_some, ↓reduceIte, Bool.false_eq_true, Bool.true_eq_false]
    exact Ev.now _
  | succ d ih =>
    intro i x hd hi hx
    have e1 : spec_l1In.f (n : Int) 1 6 = some true := by rw [spec_l1In_eq]; simp; omega
    have hw0 : wrap64 ((i : Int) + 1) = ((i + 1 : Nat) : Int) := by rw [w64 (by omega) (by omega)]; rfl
    have next : ∀ v, ∃ r, Ev (fun k => spec_PathNet.l0 k (n : Int) (x ++ [v]) ((i + 1 : Nat) : Int)) r ∧ r.length = n := fun v => ih (i + 1) _ (by omega) (by omega) (by simp [hx])
    by_cases hi0 : 0 < i
    · have hw : wrap64 ((i : Int) - 1) = ((i - 1 : Nat) : Int) := by rw [w64 (by omega) (by omega)]; omega
      by_cases hn : i + 1 < n
      · obtain ⟨r, hr, hl⟩ := next (Go.bits .or .i64 (Go.bits .or .i64 0 (shl .i64 1 ((i - 1 : Nat) : Int))) (shl .i64 1 ((i + 1 : Nat) : Int)))
        refine ⟨r, ?_, hl⟩
        refine Ev.step (fun k => spec_PathNet.l0.eq_2 ..) ?_
        simp (disch := omega) only [if_pos, if_neg, w64, rdn, rd0, tn, sc, Option.bind_some, ↓reduceIte, Bool.false_eq_true, Bool.true_eq_false]
        simp only [e1, Option.bind_some]
        refine Ev.step (fun k => spec_PathNet.j1.eq_2 ..) ?_
        simp only [hw, hw0]
        simp (disch := omega) only [if_pos, if_neg, w64, rdn, rd0, tn, sc, Option.bind_some, ↓reduceIte, Bool.false_eq_true, Bool.true_eq_false]
        exact hr
      · obtain ⟨r, hr, hl⟩ := next (Go.bits .or .i64 0 (shl .i64 1 ((i - 1 : Nat) : Int)))
        refine ⟨r, ?_, hl⟩
        refine Ev.step (fun k => spec_PathNet.l0.eq_2 ..) ?_
        simp (disch := omega) only [if_pos, if_neg, w64, rdn, rd0, tn, sc, Option.bind_some, ↓reduceIte, Bool.false_eq_true, Bool.true_eq_false]
        simp only [e1, Option.bind_some]
        refine Ev.step (fun k => spec_PathNet.j1.eq_2 ..) ?_
        simp only [hw, hw0]
        simp (disch := omega) only [if_pos, if_neg, w64, rdn, rd0, tn, sc, Option.bind_some, ↓reduceIte, Bool.false_eq_true, Bool.true_eq_false]
        exact hr
    · by_cases hn : i + 1 < n
      · obtain ⟨r, hr, hl⟩ := next (Go.bits .or .i64 0 (shl .i64 1 ((i + 1 : Nat) : Int)))
        refine ⟨r, ?_, hl⟩
        refine Ev.step (fun k => spec_PathNet.l0.eq_2 ..) ?_
        simp (disch := omega) only [if_pos, if_neg, w64, rdn, rd0, tn, sc, Option.bind_some, ↓reduceIte, Bool.false_eq_true, Bool.true_eq_false]
        simp only [e1, Option.bind_some]
        refine Ev.step (fun k => spec_PathNet.j1.eq_2 ..) ?_
        simp only [hw0]
        simp (disch := omega) only [if_pos, if_neg, w64, rdn, rd0, tn, sc, Option.bind_some, ↓reduceIte, Bool.false_eq_true, Bool.true_eq_false]
        exact hr
      · obtain ⟨r, hr, hl⟩ := next 0
        refine ⟨r, ?_, hl⟩
        refine Ev.step (fun k => spec_PathNet.l0.eq_2 ..) ?_
        simp (disch := omega) only [if_pos, if_neg, w64, rdn, rd0, tn, sc, Option.bind_some, ↓reduceIte, Bool.false_eq_true, Bool.true_eq_false]
        simp only [e1, Option.bind_some]
        refine Ev.step (fun k => spec_PathNet.j1.eq_2 ..) ?_
        simp only [hw0]
        simp (disch := omega) only [if_pos, if_neg, w64, rdn, rd0, tn, sc, Option.bind_some, ↓reduceIte, Bool.false_eq_true, Bool.true_eq_false]
        exact hr
theorem PathNet_ev (n : Nat) (h1 : 1 ≤ n) (h6 : n ≤ 6) : ∃ r, Ev (fun k => spec_PathNet.f k (n : Int)) r ∧ r.length = n := by
  unfold spec_PathNet.f
  exact PathNet_l0 n h1 h6 _ 0 [] rfl (by omega) rfl

theorem RingNet_l0 (n : Nat) (h1 : 3 ≤ n) (h6 : n ≤ 6) : ∀ (d i : Nat) (x : List Int), n - i = d → i ≤ n → x.length = i → ∃ r, Ev (fun k => spec_RingNet.l0 k (n : Int) x (i : Int)) r ∧ r.length = n := by
  intro d
  induction d with
  | zero =>
    intro i x hd hi hx
    refine ⟨x, ?_, by omega⟩
    refine Ev.step (fun k => spec_RingNet.l0.eq_2 ..) ?_
    simp (disch := omega) only [if_pos, if_neg, w64, rdn, rd0, tn, sc, Option.bind_some, ↓reduceIte, Bool.false_eq_true, Bool.true_eq_false]
    exact Ev.now _
  | succ d ih =>
    intro i x hd hi hx
    have e1 : spec_l1In.f (n : Int) 3 6 = some true := by rw [spec_l1In_eq]; simp; omega
    have hw0 : wrap64 ((i : Int) + 1) = ((i + 1 : Nat) : Int) := by rw [w64 (by omega) (by omega)]; rfl
    have hw1 : wrap64 (wrap64 ((i : Int) + (n : Int)) - 1) = ((i + n - 1 : Nat) : Int) := by
      rw [w64 (n := (i : Int) + (n : Int)) (by omega) (by omega), w64 (by omega) (by omega)]; omega
    have hm0 : Int.tmod ((i + 1 : Nat) : Int) (n : Int) = (((i + 1) % n : Nat) : Int) := by rw [tmod_nn (by omega)]; rfl
    have hm1 : Int.tmod ((i + n - 1 : Nat) : Int) (n : Int) = (((i + n - 1) % n : Nat) : Int) := by rw [tmod_nn (by omega)]; rfl
    obtain ⟨r, hr, hl⟩ := ih (i + 1) (x ++ [Go.bits .or .i64 (shl .i64 1 (((i + 1) % n : Nat) : Int)) (shl .i64 1 (((i + n - 1) % n : Nat) : Int))]) (by omega) (by omega) (by simp [hx])
    refine ⟨r, ?_, hl⟩
    refine Ev.step (fun k => spec_RingNet.l0.eq_2 ..) ?_
    simp only [hw0, hw1, hm0, hm1, e1, Option.bind_some]
    clear hw0 hw1 hm0 hm1 e1
    simp (disch := omega) only [if_pos, if_neg, w64, rdn, rd0, tn, sc, Option.bind_some, ↓reduceIte, Bool.false_eq_true, Bool.true_eq_false]
    exact hr
theorem RingNet_ev (n : Nat) (h1 : 3 ≤ n) (h6 : n ≤ 6) : ∃ r, Ev (fun k => spec_RingNet.f k (n : Int)) r ∧ r.length = n := by
  unfold spec_RingNet.f
  exact RingNet_l0 n h1 h6 _ 0 [] rfl (by omega) rfl

theorem l20Net_l0 (b : List Int) (hb : RdOk b) (n : Int) (hn : n ≤ 1000000) (nodes : Nat) (h1 : 1 ≤ nodes) (h6 : nodes ≤ 6) : ∀ (d : Nat) (x : List Int) (p : Int), x.length = nodes → 0 ≤ p → p ≤ 10000 - 2 * d →
    ∃ r p', Ev (fun k => spec_l20Net.l0 k n (nodes : Int) x (d : Int) b p) (r, p') ∧ p ≤ p' ∧ p' ≤ p + 2 * d + 2 ∧ r.length ≤ 6 := by
  intro d
  induction d with
  | zero =>
    intro x p hx hp hp2
    obtain ⟨c, p1, hc, hc1, hc2, _⟩ := odd_ev b hb p n hp (by omega) hn
    cases c with
    | false =>
      refine ⟨x, p1, ?_, by omega, by omega, by omega⟩
      refine Ev.step (fun k => spec_l20Net.l0.eq_2 ..) ?_
      simp (disch := omega) only [if_pos, if_neg, w64, rdn, rd0, tn, sc, Option.bind_some, ↓reduceIte, Bool.false_eq_true, Bool.true_eq_false]
      refine Ev.bind hc ?_
      simp (disch := omega) only [if_pos, if_neg, w64, rdn, rd0, tn, sc, Option.bind_some, ↓reduceIte, Bool.false_eq_true, Bool.true_eq_false]
      exact Ev.now _
    | true =>
      obtain ⟨v, hv, hv0, hv1, _⟩ := pick_ev b hb p1 3 (by omega) (by omega) (by omega)
      by_cases e0 : v = 0
      · refine ⟨[], p1 + 1, ?_, by omega, by omega, by simp⟩
        refine Ev.step (fun k => spec_l20Net.l0.eq_2 ..) ?_
        simp (disch := omega) only [if_pos, if_neg, w64, rdn, rd0, tn, sc, Option.bind_some, ↓reduceIte, Bool.false_eq_true, Bool.true_eq_false]
        refine Ev.bind hc ?_
        simp (disch := omega) only [if_pos, if_neg, w64, rdn, rd0, tn, sc, Option.bind_some, ↓reduceIte, Bool.false_eq_true, Bool.true_eq_false]
        refine Ev.bind hv ?_
        simp (disch := omega) only [if_pos, if_neg, w64, rdn, rd0, tn, sc, Option.bind_some, ↓reduceIte, Bool.false_eq_true, Bool.true_eq_false]
        exact Ev.now _
      · by_cases e1 : v = 1
        · refine ⟨x.set 0 (Go.bits .or .i64 (G x 0) 1), p1 + 1, ?_, by omega, by omega, by simp; omega⟩
          refine Ev.step (fun k => spec_l20Net.l0.eq_2 ..) ?_
          simp (disch := omega) only [if_pos, if_neg, w64, rdn, rd0, tn, sc, Option.bind_some, ↓reduceIte, Bool.false_eq_true, Bool.true_eq_false]
          refine Ev.bind hc ?_
          simp (disch := omega) only [if_pos, if_neg, w64, rdn, rd0, tn, sc, Option.bind_some, ↓reduceIte, Bool.false_eq_true, Bool.true_eq_false]
          refine Ev.bind hv ?_
          simp (disch := omega) only [if_pos, if_neg, w64, rdn, rd0, tn, sc, Option.bind_some, ↓reduceIte, Bool.false_eq_true, Bool.true_eq_false]
          exact Ev.now _
        · have hw : wrap64 ((nodes : Int) - 1) = (nodes : Int) - 1 := w64 (by omega) (by omega)
          by_cases e2 : nodes = 1
          · refine ⟨(x.set 0 (Go.bits .xor .i64 (G x 0) (shl .i64 1 ((nodes : Int) - 1)))).set 0 (-1), p1 + 1, ?_, by omega, by omega, by simp; omega⟩
            refine Ev.step (fun k => spec_l20Net.l0.eq_2 ..) ?_
            simp only [hw]
            simp (disch := omega) only [if_pos, if_neg, w64, rdn, rd0, tn, sc, Option.bind_some, ↓reduceIte, Bool.false_eq_true, Bool.true_eq_false]
            refine Ev.bind hc ?_
            simp (disch := omega) only [if_pos, if_neg, w64, rdn, rd0, tn, sc, Option.bind_some, ↓reduceIte, Bool.false_eq_true, Bool.true_eq_false]
            refine Ev.bind hv ?_
            simp (disch := omega) only [if_pos, if_neg, w64, rdn, rd0, tn, sc, Option.bind_some, ↓reduceIte, Bool.false_eq_true, Bool.true_eq_false]
            exact Ev.now _
          · refine ⟨x.set 0 (Go.bits .xor .i64 (G x 0) (shl .i64 1 ((nodes : Int) - 1))), p1 + 1, ?_, by omega, by omega, by simp; omega⟩
            refine Ev.step (fun k => spec_l20Net.l0.eq_2 ..) ?_
            simp only [hw]
            simp (disch := omega) only [if_pos, if_neg, w64, rdn, rd0, tn, sc, Option.bind_some, ↓reduceIte, Bool.false_eq_true, Bool.true_eq_false]
            refine Ev.bind hc ?_
            simp (disch := omega) only [if_pos, if_neg, w64, rdn, rd0, tn, sc, Option.bind_some, ↓reduceIte, Bool.false_eq_true, Bool.true_eq_false]
            refine Ev.bind hv ?_
            simp (disch := omega) only [if_pos, if_neg, w64, rdn, rd0, tn, sc, Option.bind_some, ↓reduceIte, Bool.false_eq_true, Bool.true_eq_false]
            exact Ev.now _
  | succ d ih =>
    intro x p hx hp hp2
    obtain ⟨v, hv, hv0, hv1, _⟩ := pick_ev b hb p (nodes : Int) hp (by omega) (by omega)
    obtain ⟨u, hu, hu0, hu1, _⟩ := pick_ev b hb (p + 1) (nodes : Int) (by omega) (by omega) (by omega)
    have hw : wrap64 (((d + 1 : Nat) : Int) - 1) = (d : Int) := by rw [w64 (by omega) (by omega)]; omega
    obtain ⟨i, rfl⟩ := Int.eq_ofNat_of_zero_le hv0
    obtain ⟨j, rfl⟩ := Int.eq_ofNat_of_zero_le hu0
    by_cases e : i = j
    · obtain ⟨r, p', hr, h2, h3, h4⟩ := ih x (p + 1 + 1) hx (by omega) (by omega)
      refine ⟨r, p', ?_, by omega, by omega, h4⟩
      refine Ev.step (fun k => spec_l20Net.l0.eq_2 ..) ?_
      simp only [hw]
      simp (disch := omega) only [if_pos, if_neg, w64, rdn, rd0, tn, sc, Option.bind_some, ↓reduceIte, Bool.false_eq_true, Bool.true_eq_false]
      refine Ev.bind hv ?_
      refine Ev.bind hu ?_
      simp (disch := omega) only [if_pos, if_neg, w64, rdn, rd0, tn, sc, Option.bind_some, ↓reduceIte, Bool.false_eq_true, Bool.true_eq_false]
      exact hr
    · obtain ⟨r, p', hr, h2, h3, h4⟩ := ih ((x.set i (Go.bits .or .i64 (G x i) (shl .i64 1 (j : Int)))).set j (Go.bits .or .i64 (G (x.set i (Go.bits .or .i64 (G x i) (shl .i64 1 (j : Int)))) j) (shl .i64 1 (i : Int)))) (p + 1 + 1) (by simp [hx]) (by omega) (by omega)
      refine ⟨r, p', ?_, by omega, by omega, h4⟩
      refine Ev.step (fun k => spec_l20Net.l0.eq_2 ..) ?_
      simp only [hw]
      simp (disch := omega) only [if_pos, if_neg, w64, rdn, rd0, tn, sc, Option.bind_some, ↓reduceIte, Bool.false_eq_true, Bool.true_eq_false]
      refine Ev.bind hv ?_
      refine Ev.bind hu ?_
      simp only [List.length_set]
      simp (disch := omega) only [if_pos, if_neg, w64, rdn, rd0, tn, sc, Option.bind_some, ↓reduceIte, Bool.false_eq_true, Bool.true_eq_false]
      exact hr
theorem l20Net_ev (b : List Int) (hb : RdOk b) (n p : Int) (hn : n ≤ 1000000) (hp : 0 ≤ p) (hp2 : p ≤ 9000) :
    ∃ r p', Ev (fun k => spec_l20Net.f k b p n) (r, p') ∧ p ≤ p' ∧ p' ≤ p + 20 ∧ r.length ≤ 6 := by
  obtain ⟨v, hv, hv0, hv1, _⟩ := pick_ev b hb p 6 hp (by omega) (by omega)
  obtain ⟨m, rfl⟩ := Int.eq_ofNat_of_zero_le hv0
  have hw : wrap64 (1 + (m : Int)) = ((1 + m : Nat) : Int) := by rw [w64 (by omega) (by omega)]; omega
  obtain ⟨x, hx, hxl⟩ := PathNet_ev (1 + m) (by omega) (by omega)
  obtain ⟨u, hu, hu0, hu1, _⟩ := pick_ev b hb (p + 1) 4 (by omega) (by omega) (by omega)
  have next : ∀ y : List Int, y.length = 1 + m → ∃ r p', Ev (fun k => spec_l20Net.j0 k n ((1 + m : Nat) : Int) y b (p + 1 + 1)) (r, p') ∧ p ≤ p' ∧ p' ≤ p + 20 ∧ r.length ≤ 6 := by
    intro y hy
    obtain ⟨t, ht, ht0, ht1, _⟩ := pick_ev b hb (p + 1 + 1) 6 (by omega) (by omega) (by omega)
    obtain ⟨q, rfl⟩ := Int.eq_ofNat_of_zero_le ht0
    obtain ⟨r, p', hr, h2, h3, h4⟩ := l20Net_l0 b hb n hn (1 + m) (by omega) (by omega) q y (p + 1 + 1 + 1) hy (by omega) (by omega)
    refine ⟨r, p', ?_, by omega, by omega, h4⟩
    refine Ev.step (fun k => spec_l20Net.j0.eq_2 ..) ?_
    refine Ev.bind ht ?_
    exact hr
  by_cases e0 : u = 0
  · by_cases e3 : 3 ≤ 1 + m
    · obtain ⟨y, hy, hyl⟩ := RingNet_ev (1 + m) e3 (by omega)
      obtain ⟨r, p', hr, h⟩ := next y hyl
      refine ⟨r, p', ?_, h⟩
      unfold spec_l20Net.f
      refine Ev.bind hv ?_
      simp only [hw]
      refine Ev.bind hx ?_
      refine Ev.bind hu ?_
      simp (disch := omega) only [if_pos, if_neg, w64, rdn, rd0, tn, sc, Option.bind_some, ↓reduceIte, Bool.false_eq_true, Bool.true_eq_false]
      refine Ev.bind hy ?_
      exact hr
    · obtain ⟨r, p', hr, h⟩ := next x hxl
      refine ⟨r, p', ?_, h⟩
      unfold spec_l20Net.f
      refine Ev.bind hv ?_
      simp only [hw]
      refine Ev.bind hx ?_
      refine Ev.bind hu ?_
      simp (disch := omega) only [if_pos, if_neg, w64, rdn, rd0, tn, sc, Option.bind_some, ↓reduceIte, Bool.false_eq_true, Bool.true_eq_false]
      exact hr
  · by_cases e1 : u = 1
    · obtain ⟨r, p', hr, h⟩ := next (List.replicate (1 + m) 0) (by simp)
      refine ⟨r, p', ?_, h⟩
      unfold spec_l20Net.f
      refine Ev.bind hv ?_
      simp only [hw]
      refine Ev.bind hx ?_
      refine Ev.bind hu ?_
      simp (disch := omega) only [if_pos, if_neg, w64, rdn, rd0, tn, sc, Option.bind_some, ↓reduceIte, Bool.false_eq_true, Bool.true_eq_false]
      exact hr
    · obtain ⟨r, p', hr, h⟩ := next x hxl
      refine ⟨r, p', ?_, h⟩
      unfold spec_l20Net.f
      refine Ev.bind hv ?_
      simp only [hw]
      refine Ev.bind hx ?_
      refine Ev.bind hu ?_
      simp (disch := omega) only [if_pos, if_neg, w64, rdn, rd0, tn, sc, Option.bind_some, ↓reduceIte, Bool.false_eq_true, Bool.true_eq_false]
      exact hr

theorem l20State_l0 (b : List Int) (hb : RdOk b) (nodes : Nat) (kinds n thin : Int) (h1 : 1 ≤ nodes) (h9 : nodes ≤ 100) (hk : 1 ≤ kinds) (hk' : kinds ≤ 1000) (hn : n ≤ 1000000) :
    ∀ (d : Nat) (i : Nat) (s : List Int) (p : Int), nodes - i = d → i ≤ nodes → s.length = i → (∀ j, 0 ≤ G s j ∧ G s j ≤ kinds) → 0 ≤ p → p ≤ 100000 - 2 * (nodes - i) →
      ∃ r p', Ev (fun k => spec_l20State.l0 k (nodes : Int) kinds n s thin (i : Int) b p) (r, p') ∧ p ≤ p' ∧ p' ≤ p + 2 * (nodes - i) + 2 ∧ (r.length = 0 ∨ r.length = nodes) ∧ (∀ j, 0 ≤ G r j ∧ G r j ≤ kinds) ∧ (n ≤ 0 → r.length = nodes) := by
  intro d
  induction d with
  | zero =>
    intro i s p hd hi hs hj hp hp2
    have hin : i = nodes := by omega
    obtain ⟨c, p1, hc, hc1, hc2, hc3⟩ := odd_ev b hb p n hp (by omega) hn
    cases c with
    | false =>
      refine ⟨s, p1, ?_, by omega, by omega, Or.inr (by omega), hj, fun _ => by omega⟩
      refine Ev.step (fun k => spec_l20State.l0.eq_2 ..) ?_
      simp (disch := omega) only [if_pos, if_neg, w64, rdn, rd0, tn, sc, Option.bind_some, ↓reduceIte, Bool.false_eq_true, Bool.true_eq_false]
      refine Ev.bind hc ?_
      simp (disch := omega) only [if_pos, if_neg, w64, rdn, rd0, tn, sc, Option.bind_some, ↓reduceIte, Bool.false_eq_true, Bool.true_eq_false]
      exact Ev.now _
    | true =>
      obtain ⟨v, hv, _⟩ := pick_ev b hb p1 2 (by omega) (by omega) (by omega)
      by_cases hv0 : v = 0
      · refine ⟨[], p1 + 1, ?_, by omega, by omega, Or.inl rfl, fun j => by simp [G]; omega, fun h => by have := hc3 h; simp at this⟩
        refine Ev.step (fun k => spec_l20State.l0.eq_2 ..) ?_
        simp (disch := omega) only [if_pos, if_neg, w64, rdn, rd0, tn, sc, Option.bind_some, ↓reduceIte, Bool.false_eq_true, Bool.true_eq_false]
        refine Ev.bind hc ?_
        simp (disch := omega) only [if_pos, if_neg, w64, rdn, rd0, tn, sc, Option.bind_some, ↓reduceIte, Bool.false_eq_true, Bool.true_eq_false]
        refine Ev.bind hv ?_
        simp (disch := omega) only [if_pos, if_neg, w64, rdn, rd0, tn, sc, Option.bind_some, ↓reduceIte, Bool.false_eq_true, Bool.true_eq_false]
        exact Ev.now _
      · refine ⟨s.set (nodes - 1) kinds, p1 + 1, ?_, by omega, by omega, Or.inr (by simp; omega), fun j => ?_, fun h => by have := hc3 h; simp at this⟩
        · have hw : wrap64 ((s.length : Int) - 1) = ((nodes - 1 : Nat) : Int) := by rw [w64 (by omega) (by omega)]; omega
          refine Ev.step (fun k => spec_l20State.l0.eq_2 ..) ?_
          simp only [hw]
          simp (disch := omega) only [if_pos, if_neg, w64, rdn, rd0, tn, sc, Option.bind_some, ↓reduceIte, Bool.false_eq_true, Bool.true_eq_false]
          refine Ev.bind hc ?_
          simp (disch := omega) only [if_pos, if_neg, w64, rdn, rd0, tn, sc, Option.bind_some, ↓reduceIte, Bool.false_eq_true, Bool.true_eq_false]
          refine Ev.bind hv ?_
          simp (disch := omega) only [if_pos, if_neg, w64, rdn, rd0, tn, sc, Option.bind_some, ↓reduceIte, Bool.false_eq_true, Bool.true_eq_false]
          exact Ev.now _
        · by_cases e : j = nodes - 1
          · subst e; rw [G_set_self _ (by omega)]; omega
          · rw [G_set_ne _ e]; exact hj j
  | succ d ih =>
    intro i s p hd hi hs hj hp hp2
    have next : ∀ v p1, 0 ≤ v → v ≤ kinds → p ≤ p1 → p1 ≤ p + 2 → ∃ r p', Ev (fun k => spec_l20State.l0 k (nodes : Int) kinds n (s ++ [v]) thin ((i + 1 : Nat) : Int) b p1) (r, p') ∧ p1 ≤ p' ∧ p' ≤ p1 + 2 * (nodes - (i + 1)) + 2 ∧ (r.length = 0 ∨ r.length = nodes) ∧ (∀ j, 0 ≤ G r j ∧ G r j ≤ kinds) ∧ (n ≤ 0 → r.length = nodes) := by
      intro v p1 hv hv' hp1 hp1'
      refine (ih (i + 1) (s ++ [v]) p1 (by omega) (by omega) (by simp [hs]) ?_ (by omega) (by omega))
      intro j
      by_cases e : j < i
      · rw [G_append_left (by omega)]; exact hj j
      · rw [G_append_right (by omega)]
        by_cases e2 : j - s.length = 0
        · rw [e2]; simp [G]; omega
        · rw [G_of_ge (by simp; omega)]; omega
    by_cases ht : thin > 0
    · obtain ⟨v, hv, hv0, hv1, _⟩ := pick_ev b hb p 3 hp (by omega) (by omega)
      by_cases hvt : v < thin
      · obtain ⟨r, p', hr, h2, h3, h4⟩ := next 0 (p + 1) (by omega) (by omega) (by omega) (by omega)
        refine ⟨r, p', ?_, by omega, by omega, h4⟩
        refine Ev.step (fun k => spec_l20State.l0.eq_2 ..) ?_
        simp (disch := omega) only [if_pos, if_neg, w64, rdn, rd0, tn, sc, Option.bind_some, ↓reduceIte, Bool.false_eq_true, Bool.true_eq_false]
        refine Ev.bind hv ?_
        simp (disch := omega) only [if_pos, if_neg, w64, rdn, rd0, tn, sc, Option.bind_some, ↓reduceIte, Bool.false_eq_true, Bool.true_eq_false]
        exact hr
      · obtain ⟨u, hu, hu0, hu1, _⟩ := pick_ev b hb (p + 1) kinds (by omega) (by omega) (by omega)
        obtain ⟨r, p', hr, h2, h3, h4⟩ := next u (p + 1 + 1) hu0 (by omega) (by omega) (by omega)
        refine ⟨r, p', ?_, by omega, by omega, h4⟩
        refine Ev.step (fun k => spec_l20State.l0.eq_2 ..) ?_
        simp (disch := omega) only [if_pos, if_neg, w64, rdn, rd0, tn, sc, Option.bind_some, ↓reduceIte, Bool.false_eq_true, Bool.true_eq_false]
        refine Ev.bind hv ?_
        simp (disch := omega) only [if_pos, if_neg, w64, rdn, rd0, tn, sc, Option.bind_some, ↓reduceIte, Bool.false_eq_true, Bool.true_eq_false]
        refine Ev.bind hu ?_
        simp (disch := omega) only [if_pos, if_neg, w64, rdn, rd0, tn, sc, Option.bind_some, ↓reduceIte, Bool.false_eq_true, Bool.true_eq_false]
        exact hr
    · obtain ⟨u, hu, hu0, hu1, _⟩ := pick_ev b hb p kinds (by omega) (by omega) (by omega)
      obtain ⟨r, p', hr, h2, h3, h4⟩ := next u (p + 1) hu0 (by omega) (by omega) (by omega)
      refine ⟨r, p', ?_, by omega, by omega, h4⟩
      refine Ev.step (fun k => spec_l20State.l0.eq_2 ..) ?_
      simp (disch := omega) only [if_pos, if_neg, w64, rdn, rd0, tn, sc, Option.bind_some, ↓reduceIte, Bool.false_eq_true, Bool.true_eq_false]
      refine Ev.bind hu ?_
      simp (disch := omega) only [if_pos, if_neg, w64, rdn, rd0, tn, sc, Option.bind_some, ↓reduceIte, Bool.false_eq_true, Bool.true_eq_false]
      exact hr
theorem l20State_ev (b : List Int) (hb : RdOk b) (nodes : Nat) (kinds n p : Int) (h1 : 1 ≤ nodes) (h9 : nodes ≤ 100) (hk : 1 ≤ kinds) (hk' : kinds ≤ 1000) (hn : n ≤ 1000000) (hp : 0 ≤ p) (hp2 : p ≤ 10000) :
    ∃ r p', Ev (fun k => spec_l20State.f k b p (nodes : Int) kinds n) (r, p') ∧ p ≤ p' ∧ p' ≤ p + 300 ∧ (r.length = 0 ∨ r.length = nodes) ∧ (∀ j, 0 ≤ G r j ∧ G r j ≤ kinds) ∧ (n ≤ 0 → r.length = nodes) := by
  obtain ⟨v, hv, hv0, hv1, _⟩ := pick_ev b hb p 3 hp (by omega) (by omega)
  obtain ⟨r, p', hr, h2, h3, h4⟩ := l20State_l0 b hb nodes kinds n v h1 h9 hk hk' hn _ 0 [] (p + 1) rfl (by omega) rfl (fun j => by simp [G]; omega) (by omega) (by omega)
  refine ⟨r, p', ?_, by omega, by omega, h4⟩
  unfold spec_l20State.f
  refine Ev.bind hv ?_
  exact hr

theorem l20Turn_ev (b : List Int) (hb : RdOk b) (n p : Int) (hn0 : 0 ≤ n) (hn : n ≤ 1000) (hp : 0 ≤ p) (hp2 : p ≤ 1000) :
    ∃ net s p', Ev (fun k => spec_l20Turn.f k b p n) (net, s, p') ∧ p ≤ p' ∧ p' ≤ p + 400 ∧ net.length ≤ 6 ∧ s.length ≤ 7 := by
  have hw : wrap64 (n * 2) = n * 2 := w64 (by omega) (by omega)
  obtain ⟨net, p1, h1, h1a, h1b, h1c⟩ := l20Net_ev b hb (n * 2) p (by omega) hp (by omega)
  obtain ⟨m, hm, hm1, hm6⟩ : ∃ m : Nat, mx (net.length : Int) 1 = (m : Int) ∧ 1 ≤ m ∧ m ≤ 6 := by
    unfold mx
    by_cases e : (net.length : Int) < 1
    · exact ⟨1, by rw [if_pos e]; rfl, by omega, by omega⟩
    · exact ⟨net.length, by rw [if_neg e], by omega, by omega⟩
  obtain ⟨s, p2, h2, h2a, h2b, h2c, _⟩ := l20State_ev b hb m 3 (n * 2) p1 hm1 (by omega) (by omega) (by omega) (by omega) (by omega) (by omega)
  obtain ⟨c, p3, h3, h3a, h3b, _⟩ := odd_ev b hb p2 (n * 2) (by omega) (by omega) (by omega)
  cases c with
  | true =>
    refine ⟨net, s ++ [0], p3, ?_, by omega, by omega, h1c, by simp; omega⟩
    unfold spec_l20Turn.f
    simp only [hw]
    refine Ev.bind h1 ?_
    simp only [hm]
    refine Ev.bind h2 ?_
    refine Ev.bind h3 ?_
    simp (disch := omega) only [if_pos, if_neg, w64, rdn, rd0, tn, sc, Option.bind_some, ↓reduceIte, Bool.false_eq_true, Bool.true_eq_false]
    exact Ev.now _
  | false =>
    refine ⟨net, s, p3, ?_, by omega, by omega, h1c, by omega⟩
    unfold spec_l20Turn.f
    simp only [hw]
    refine Ev.bind h1 ?_
    simp only [hm]
    refine Ev.bind h2 ?_
    refine Ev.bind h3 ?_
    simp (disch := omega) only [if_pos, if_neg, w64, rdn, rd0, tn, sc, Option.bind_some, ↓reduceIte, Bool.false_eq_true, Bool.true_eq_false]
    exact Ev.now _

theorem DrawBestTour_ev (l : List Int) (h : ∀ x ∈ l, (Lit.int .u8 x).wf = true) : ∃ net s a t, Ev (fun k => spec_DrawBestTour.f k l) (net, s, a, t) ∧ net.length ≤ 6 ∧ s.length ≤ 7 ∧ 0 ≤ a ∧ a ≤ 12 ∧ 0 ≤ t ∧ t ≤ 14 := by
  obtain ⟨b, hb, hR⟩ := spec_l20Open_eq l h
  obtain ⟨net, s, p, h1, hp1, hp2, h2, h3⟩ := l20Turn_ev b hR 14 0 (by omega) (by omega) (by omega) (by omega)
  have hm1 : 1 ≤ mx (net.length : Int) 1 ∧ mx (net.length : Int) 1 ≤ 6 := by unfold mx; split <;> omega
  obtain ⟨v, hv, hv0, hv1, _⟩ := pick_ev b hR p (mx (net.length : Int) 1) (by omega) (by omega) (by omega)
  obtain ⟨w, hw, hw0, hw1, _⟩ := pick_ev b hR (p + 1) 40 (by omega) (by omega) (by omega)
  obtain ⟨x, hx, hx0, hx1, _⟩ := pick_ev b hR (p + 1 + 1) 9 (by omega) (by omega) (by omega)
  obtain ⟨y, hy, hy0, hy1, _⟩ := pick_ev b hR (p + 1 + 1 + 1) 40 (by omega) (by omega) (by omega)
  have hv2 := hv1 hm1.1
  have hw2 := hw1 (by omega)
  have hx2 := hx1 (by omega)
  have hy2 := hy1 (by omega)
  refine ⟨net, s, v + w / 39 * 6, x + y / 39 * 6, ?_, h2, h3, by omega, by omega, by omega, by omega⟩
  have e : ∀ v w : Int, 0 ≤ v → v ≤ 100 → 0 ≤ w → w < 40 → wrap64 (v + wrap64 (wrap64 (Int.tdiv w 39) * 6)) = v + w / 39 * 6 := by
    intro v w a1 a2 a3 a4
    rw [tdiv_nn a3, w64 (n := w / 39) (by omega) (by omega), w64 (n := w / 39 * 6) (by omega) (by omega), w64 (by omega) (by omega)]
  unfold spec_DrawBestTour.f
  rw [hb]
  simp only [Option.bind_some]
  refine Ev.bind h1 ?_
  refine Ev.bind hv ?_
  refine Ev.bind hw ?_
  refine Ev.bind hx ?_
  refine Ev.bind hy ?_
  exact Ev.val (by rw [e v w hv0 (by omega) hw0 hw2, e x y hx0 (by omega) hy0 hy2])

theorem laws_sameInts_l0 (a b : List Int) (hl : a.length ≤ 1048576) (hab : a.length = b.length) : ∀ (d : Nat) (i : Nat), a.length - i = d → i ≤ a.length → (∀ j, j < i → G a j = G b j) → Ev (fun k => laws_sameInts.l0 k a b (i : Int)) (decide (a = b)) := by
  intro d
  induction d with
  | zero =>
    intro i hd hi hj
    refine Ev.step (fun k => laws_sameInts.l0.eq_2 ..) ?_
    simp (disch := omega) only [if_pos, if_neg, w64, rdn, rd0, tn, sc, Option.bind_some, ↓reduceIte, Bool.false_eq_true, Bool.true_eq_false]
    have e : a = b := ext hab (fun j h => hj j (by omega))
    exact Ev.val (by simp [e])
  | succ d ih =>
    intro i hd hi hj
    refine Ev.step (fun k => laws_sameInts.l0.eq_2 ..) ?_
    by_cases e : G a i = G b i
    · simp (disch := omega) only [if_pos, if_neg, w64, rdn, rd0, tn, sc, Option.bind_some, ↓reduceIte, Bool.false_eq_true, Bool.true_eq_false]
      refine ih _ (by omega) (by omega) ?_
      intro j hji
      by_cases e' : j = i
      · subst e'; exact e
      · exact hj j (by omega)
    · simp (disch := omega) only [if_pos, if_neg, w64, rdn, rd0, tn, sc, Option.bind_some, ↓reduceIte, Bool.false_eq_true, Bool.true_eq_false]
      have : a ≠ b := fun h => e (by rw [h])
      exact Ev.val (by simp [this])
theorem laws_sameInts_ev (a b : List Int) (hl : a.length ≤ 1048576) : Ev (fun k => laws_sameInts.f k a b) (decide (a = b)) := by
  unfold laws_sameInts.f
  by_cases hab : a.length = b.length
  · simp (disch := omega) only [if_pos, if_neg, w64, rdn, rd0, tn, sc, Option.bind_some, ↓reduceIte, Bool.false_eq_true, Bool.true_eq_false]
    exact laws_sameInts_l0 a b hl hab _ 0 rfl (by omega) (fun j h => by omega)
  · simp (disch := omega) only [if_pos, if_neg, w64, rdn, rd0, tn, sc, Option.bind_some, ↓reduceIte, Bool.false_eq_true, Bool.true_eq_false]
    have : a ≠ b := fun h => hab (by rw [h])
    exact Ev.val (by simp [this])
theorem laws_sameInts_self (a : List Int) (hl : a.length ≤ 1048576) : Ev (fun k => laws_sameInts.f k a a) true := by
  have h := laws_sameInts_ev a a hl
  simpa using h

theorem alive_ev : Ev (fun k => laws_alive.f k) true := by
  unfold laws_alive.f
  refine Ev.bind (impl_NetOk_ev _ (by decide)) ?_
  have e1 : decide (NetP [2, 1]) = true := by decide
  simp only [e1]
  simp (disch := omega) only [if_pos, if_neg, w64, rdn, rd0, tn, sc, Option.bind_some, ↓reduceIte, Bool.false_eq_true, Bool.true_eq_false]
  refine Ev.bind (impl_NetOk_ev _ (by decide)) ?_
  have e2 : decide (NetP [1]) = false := by decide
  simp only [e2, Bool.not_false]
  exact Ev.now _

-- needs Turn
theorem impl_MostClimb_l2 (net s m : List Int) (h : Asked net 3 s) (steps st i : Nat) (hi : i < s.length) (hm : m.length = s.length) (hmb : ∀ j, j < s.length → 0 ≤ G m j ∧ G m j ≤ 1000) (r : List Int)
    (hend : ∀ x : List Int, x.length = s.length → (∀ p, p < s.length → G x p = if p < i + 1 then maxA net p (fun j => rise (G s p) (G s j) + G m j) 0 s.length else 0) → Ev (fun k => impl_MostClimb.l1 k net s m x (steps : Int) (st : Int) (s.length : Int) ((i + 1 : Nat) : Int)) r) :
    ∀ (d j : Nat) (x : List Int), s.length - j = d → j ≤ s.length → x.length = s.length →
      (∀ p, p < s.length → p ≠ i → G x p = if p < i then maxA net p (fun j => rise (G s p) (G s j) + G m j) 0 s.length else 0) →
      G x i = maxA net i (fun j => rise (G s i) (G s j) + G m j) 0 j →
      Ev (fun k => impl_MostClimb.l2 k net s m x (i : Int) (steps : Int) (st : Int) (s.length : Int) (i : Int) (s.length : Int) (j : Int)) r := by
  intro d
  have h6 := asked6 h
  have hl := h.2.2
  induction d with
  | zero =>
    intro j x hd hj hx hp hi'
    refine Ev.step (fun k => impl_MostClimb.l2.eq_2 ..) ?_
    simp (disch := omega) only [if_pos, if_neg, w64, rdn, rd0, tn, sc, Option.bind_some, ↓reduceIte, Bool.false_eq_true, Bool.true_eq_false]
    refine hend x hx (fun p hpl => ?_)
    by_cases e : p = i
    · subst e; rw [if_pos (by omega), hi', show j = s.length from by omega]
    · rw [hp p hpl e]
      by_cases e3 : p < i
      · rw [if_pos e3, if_pos (by omega)]
      · rw [if_neg e3, if_neg (by omega)]
  | succ d ih =>
    intro j x hd hj hx hp hi'
    refine Ev.step (fun k => impl_MostClimb.l2.eq_2 ..) ?_
    have hb := bit_and (G net i) (j := j) (by omega)
    have er := impl_rise_eq s h.2.1.2.2.2.2 (show i < s.length by omega) (show j < s.length by omega)
    have hr := rise_le (G s i) (G s j)
    have hmj := hmb j (by omega)
    have hmx : mx (G x i) (rise (G s i) (G s j) + G m j) = mxi (G x i) (rise (G s i) (G s j) + G m j) := rfl
    simp only [rdn, tn, hb, er, Option.bind_some]
    clear hb er
    by_cases e1 : G net i / 2 ^ j % 2 = 1
    · have e2 : maxA net i (fun j => rise (G s i) (G s j) + G m j) 0 (j + 1) = mxi (G x i) (rise (G s i) (G s j) + G m j) := by
        simp only [maxA]; rw [if_pos (show adj net i j from e1), hi']
      simp (disch := omega) only [if_pos, if_neg, w64, rdn, rd0, tn, sc, Option.bind_some, ↓reduceIte, Bool.false_eq_true, Bool.true_eq_false]
      refine ih (j + 1) _ (by omega) (by omega) (by simp [hx]) ?_ ?_
      · intro p hpl hpi
        rw [G_set_ne _ hpi]; exact hp p hpl hpi
      · rw [G_set_self _ (by omega), e2, hmx]
    · have e2 : maxA net i (fun j => rise (G s i) (G s j) + G m j) 0 (j + 1) = G x i := by
        simp only [maxA]; rw [if_neg (show ¬ adj net i j from e1), hi']
      simp (disch := omega) only [if_pos, if_neg, w64, rdn, rd0, tn, sc, Option.bind_some, ↓reduceIte, Bool.false_eq_true, Bool.true_eq_false]
      exact ih (j + 1) x (by omega) (by omega) hx hp e2.symm
theorem impl_MostClimb_l1 (net s m : List Int) (h : Asked net 3 s) (steps st : Nat) (hst : st ≤ 100) (hm : m.length = s.length) (hmb : ∀ j, j < s.length → 0 ≤ G m j ∧ G m j ≤ 1000) (r : List Int)
    (hend : ∀ x : List Int, x.length = s.length → (∀ p, p < s.length → G x p = maxA net p (fun j => rise (G s p) (G s j) + G m j) 0 s.length) → Ev (fun k => impl_MostClimb.l0 k net s x (steps : Int) ((st + 1 : Nat) : Int)) r) :
    ∀ (d i : Nat) (x : List Int), s.length - i = d → i ≤ s.length → x.length = s.length →
      (∀ p, p < s.length → G x p = if p < i then maxA net p (fun j => rise (G s p) (G s j) + G m j) 0 s.length else 0) →
      Ev (fun k => impl_MostClimb.l1 k net s m x (steps : Int) (st : Int) (s.length : Int) (i : Int)) r := by
  intro d
  have h6 := asked6 h
  have hl := h.2.2
  induction d with
  | zero =>
    intro i x hd hi hx hp
    refine Ev.step (fun k => impl_MostClimb.l1.eq_2 ..) ?_
    simp (disch := omega) only [if_pos, if_neg, w64, rdn, rd0, tn, sc, Option.bind_some, ↓reduceIte, Bool.false_eq_true, Bool.true_eq_false]
    exact hend x hx (fun p hpl => by rw [hp p hpl, if_pos (by omega)])
  | succ d ih =>
    intro i x hd hi hx hp
    refine Ev.step (fun k => impl_MostClimb.l1.eq_2 ..) ?_
    simp only [hl]
    simp (disch := omega) only [if_pos, if_neg, w64, rdn, rd0, tn, sc, Option.bind_some, ↓reduceIte, Bool.false_eq_true, Bool.true_eq_false]
    refine impl_MostClimb_l2 net s m h steps st i (by omega) hm hmb r (fun y hy hq => ih (i + 1) y (by omega) (by omega) hy hq) _ 0 x rfl (by omega) hx (fun p hpl _ => hp p hpl) ?_
    rw [hp i (by omega), if_neg (by omega)]; rfl
theorem impl_MostClimb_l0 (net s : List Int) (h : Asked net 3 s) (steps : Nat) (hs : steps ≤ 60) : ∀ (d st : Nat), steps - st = d → st ≤ steps →
    Ev (fun k => impl_MostClimb.l0 k net s (mk s.length (turnedN net s st)) (steps : Int) (st : Int)) (mk s.length (turnedN net s steps)) := by
  intro d
  have h6 := asked6 h
  have hl := h.2.2
  induction d with
  | zero =>
    intro st hd hst
    refine Ev.step (fun k => impl_MostClimb.l0.eq_2 ..) ?_
    obtain rfl : st = steps := by omega
    simp (disch := omega) only [if_pos, if_neg, w64, rdn, rd0, tn, sc, Option.bind_some, ↓reduceIte, Bool.false_eq_true, Bool.true_eq_false]
    exact Ev.now _
  | succ d ih =>
    intro st hd hst
    refine Ev.step (fun k => impl_MostClimb.l0.eq_2 ..) ?_
    simp only [hl]
    simp (disch := omega) only [if_pos, if_neg, w64, rdn, rd0, tn, sc, Option.bind_some, ↓reduceIte, Bool.false_eq_true, Bool.true_eq_false]
    rw [replicate_mk]
    refine impl_MostClimb_l1 net s _ h _ st (by omega) (mk_length _ _) (fun j hj => by rw [G_mk _ hj]; have := turnedN_bd net s st j; omega) _ ?_ _ 0 _ rfl (by omega) (mk_length _ _) (fun p hp => by rw [if_neg (by omega), G_mk _ hp])
    intro x hx hp
    have e2 : x = mk s.length (turnedN net s (st + 1)) := mk_eq_iff.2 ⟨hx, fun p hpl => by
      rw [hp p hpl, turnedN_max0 h st hpl]
      exact maxA_congr (fun j hj => by rw [G_mk _ hj])⟩
    rw [e2]
    exact ih (st + 1) (by omega) (by omega)
theorem impl_MostClimb_ev (net s : List Int) (t : Int) (hn : net.length ≤ 1048576) (hs : s.length ≤ 1048576) : Ev (fun k => impl_MostClimb.f k net s t) (turnedRow net s t) := by
  unfold impl_MostClimb.f
  refine Ev.bind (impl_asked_ev net s 3 hn hs) ?_
  by_cases h : Asked net 3 s
  · simp only [h, decide_true]
    have h6 := asked6 h
    have hl := h.2.2
    by_cases h0 : t < 0
    · rw [turnedRow_no (by omega)]
      simp (disch := omega) only [if_pos, if_neg, w64, rdn, rd0, tn, sc, Option.bind_some, ↓reduceIte, Bool.false_eq_true, Bool.true_eq_false]
      refine Ev.step (fun k => impl_MostClimb.j0.eq_2 ..) ?_
      simp (disch := omega) only [if_pos, if_neg, w64, rdn, rd0, tn, sc, Option.bind_some, ↓reduceIte, Bool.false_eq_true, Bool.true_eq_false]
      exact Ev.now _
    · by_cases h2 : t > 60
      · have e : decide (t > 60) = true := by simp; omega
        rw [turnedRow_no (by omega)]
        simp only [e]
        simp (disch := omega) only [if_pos, if_neg, w64, rdn, rd0, tn, sc, Option.bind_some, ↓reduceIte, Bool.false_eq_true, Bool.true_eq_false]
        refine Ev.step (fun k => impl_MostClimb.j0.eq_2 ..) ?_
        simp (disch := omega) only [if_pos, if_neg, w64, rdn, rd0, tn, sc, Option.bind_some, ↓reduceIte, Bool.false_eq_true, Bool.true_eq_false]
        exact Ev.now _
      · have e : decide (t > 60) = false := by simp; omega
        obtain ⟨q, rfl⟩ := Int.eq_ofNat_of_zero_le (show 0 ≤ t by omega)
        rw [turnedRow_yes h (by omega)]
        simp only [e]
        simp (disch := omega) only [if_pos, if_neg, w64, rdn, rd0, tn, sc, Option.bind_some, ↓reduceIte, Bool.false_eq_true, Bool.true_eq_false]
        refine Ev.step (fun k => impl_MostClimb.j0.eq_2 ..) ?_
        simp (disch := omega) only [if_pos, if_neg, w64, rdn, rd0, tn, sc, Option.bind_some, ↓reduceIte, Bool.false_eq_true, Bool.true_eq_false]
        rw [replicate_mk, hl]
        exact impl_MostClimb_l0 net s h q (by omega) _ 0 rfl (by omega)
  · rw [turnedRow_no (fun g => h g.1)]
    simp only [h, decide_false]
    simp (disch := omega) only [if_pos, if_neg, w64, rdn, rd0, tn, sc, Option.bind_some, ↓reduceIte, Bool.false_eq_true, Bool.true_eq_false]
    refine Ev.step (fun k => impl_MostClimb.j0.eq_2 ..) ?_
    simp (disch := omega) only [if_pos, if_neg, w64, rdn, rd0, tn, sc, Option.bind_some, ↓reduceIte, Bool.false_eq_true, Bool.true_eq_false]
    exact Ev.now _

theorem impl_TourOk_l0 (net t : List Int) (hn : NetP net) (h1 : 1 ≤ t.length) (h12 : t.length ≤ 12) : ∀ (d : Nat) (i : Nat), t.length - i = d → i ≤ t.length →
    (∀ j, j < i → 0 ≤ G t j ∧ G t j < net.length) → (∀ j, j + 1 < i → adj net (G t j).toNat (G t (j + 1)).toNat) → Ev (fun k => impl_TourOk.l0 k net t t (t.length : Int) (i : Int)) (decide (TourP net t)) := by
  intro d
  have hn6 := hn.2.1
  have hn1 := hn.1
  induction d with
  | zero =>
    intro i hd hi hj ha
    refine Ev.step (fun k => impl_TourOk.l0.eq_2 ..) ?_
    simp (disch := omega) only [if_pos, if_neg, w64, rdn, rd0, tn, sc, Option.bind_some, ↓reduceIte, Bool.false_eq_true, Bool.true_eq_false]
    have : TourP net t := ⟨hn, h1, h12, fun j h => hj j (by omega), fun j h => ha j (by omega)⟩
    exact Ev.val (by simp [this])
  | succ d ih =>
    intro i hd hi hj ha
    refine Ev.step (fun k => impl_TourOk.l0.eq_2 ..) ?_
    by_cases e : 0 ≤ G t i ∧ G t i < (net.length : Int)
    · obtain ⟨b, hb⟩ := Int.eq_ofNat_of_zero_le e.1
      by_cases i0 : i = 0
      · subst i0
        simp (disch := omega) only [if_pos, if_neg, w64, rdn, rd0, tn, sc, Option.bind_some, ↓reduceIte, Bool.false_eq_true, Bool.true_eq_false]
        refine ih 1 (by omega) (by omega) ?_ (fun j h => by omega)
        intro j hji
        obtain rfl : j = 0 := by omega
        omega
      · have hw1 : wrap64 ((i : Int) - 1) = ((i - 1 : Nat) : Int) := by rw [w64 (by omega) (by omega)]; omega
        have hp := hj (i - 1) (by omega)
        obtain ⟨a, hA⟩ := Int.eq_ofNat_of_zero_le hp.1
        have hbm := bit_and (G net a) (j := b) (by omega)
        simp only [hw1, rdn, hA, hb, hbm]
        have m1 := Int.emod_two_eq (G net a / 2 ^ b)
        by_cases e2 : G net a / 2 ^ b % 2 = 0
        · simp (disch := omega) only [if_pos, if_neg, w64, rdn, rd0, tn, sc, Option.bind_some, ↓reduceIte, Bool.false_eq_true, Bool.true_eq_false]
          have : ¬ TourP net t := fun p => by
            have h := p.2.2.2.2 (i - 1) (by omega)
            rw [show i - 1 + 1 = i from by omega, hA, hb] at h
            unfold adj at h; simp only [tn] at h; omega
          exact Ev.val (by simp [this])
        · simp (disch := omega) only [if_pos, if_neg, w64, rdn, rd0, tn, sc, Option.bind_some, ↓reduceIte, Bool.false_eq_true, Bool.true_eq_false]
          refine ih _ (by omega) (by omega) ?_ ?_
          · intro j hji
            by_cases e' : j = i
            · subst e'; omega
            · exact hj j (by omega)
          · intro j hji
            by_cases e' : j + 1 = i
            · obtain rfl : j = i - 1 := by omega
              rw [e', hA, hb]; unfold adj; simp only [tn]; omega
            · exact ha j (by omega)
    · have hf : ¬ TourP net t := fun p => by have := p.2.2.2.1 i (by omega); omega
      by_cases e0 : G t i < 0
      · simp (disch := omega) only [if_pos, if_neg, w64, rdn, rd0, tn, sc, Option.bind_some, ↓reduceIte, Bool.false_eq_true, Bool.true_eq_false]
        exact Ev.val (by simp [hf])
      · simp (disch := omega) only [if_pos, if_neg, w64, rdn, rd0, tn, sc, Option.bind_some, ↓reduceIte, Bool.false_eq_true, Bool.true_eq_false]
        exact Ev.val (by simp [hf])
theorem impl_TourOk_ev (net t : List Int) (hl : net.length ≤ 1048576) (ht : t.length ≤ 1048576) : Ev (fun k => impl_TourOk.f k net t) (decide (TourP net t)) := by
  unfold impl_TourOk.f
  refine Ev.bind (impl_NetOk_ev net hl) ?_
  by_cases hn : NetP net
  · simp only [hn, decide_true]
    by_cases h1 : t.length < 1
    · simp (disch := omega) only [if_pos, if_neg, w64, rdn, rd0, tn, sc, Option.bind_some, ↓reduceIte, Bool.false_eq_true, Bool.true_eq_false]
      refine Ev.step (fun k => impl_TourOk.j0.eq_2 ..) ?_
      simp (disch := omega) only [if_pos, if_neg, w64, rdn, rd0, tn, sc, Option.bind_some, ↓reduceIte, Bool.false_eq_true, Bool.true_eq_false]
      have : ¬ TourP net t := fun p => by have := p.2.1; omega
      exact Ev.val (by simp [this])
    · simp (disch := omega) only [if_pos, if_neg, w64, rdn, rd0, tn, sc, Option.bind_some, ↓reduceIte, Bool.false_eq_true, Bool.true_eq_false]
      refine Ev.step (fun k => impl_TourOk.j0.eq_2 ..) ?_
      by_cases h12 : t.length > 12
      · have e : decide ((t.length : Int) > 12) = true := by simp; omega
        simp only [e]
        simp (disch := omega) only [if_pos, if_neg, w64, rdn, rd0, tn, sc, Option.bind_some, ↓reduceIte, Bool.false_eq_true, Bool.true_eq_false]
        have : ¬ TourP net t := fun p => by have := p.2.2.1; omega
        exact Ev.val (by simp [this])
      · have e : decide ((t.length : Int) > 12) = false := by simp; omega
        simp only [e]
        simp (disch := omega) only [if_pos, if_neg, w64, rdn, rd0, tn, sc, Option.bind_some, ↓reduceIte, Bool.false_eq_true, Bool.true_eq_false]
        exact impl_TourOk_l0 net t hn (by omega) (by omega) _ 0 rfl (by omega) (fun j h => by omega) (fun j h => by omega)
  · simp only [hn, decide_false]
    simp (disch := omega) only [if_pos, if_neg, w64, rdn, rd0, tn, sc, Option.bind_some, ↓reduceIte, Bool.false_eq_true, Bool.true_eq_false]
    refine Ev.step (fun k => impl_TourOk.j0.eq_2 ..) ?_
    simp (disch := omega) only [if_pos, if_neg, w64, rdn, rd0, tn, sc, Option.bind_some, ↓reduceIte, Bool.false_eq_true, Bool.true_eq_false]
    have : ¬ TourP net t := fun p => hn p.1
    exact Ev.val (by simp [this])

-- needs Tour
theorem impl_ClimbOf_l0 (net s t : List Int) (h : ClimbP net s t) : ∀ (d i : Nat), t.length - 1 - i = d → i ≤ t.length - 1 →
    Ev (fun k => impl_ClimbOf.l0 k s t (climbTo s t i) ((i + 1 : Nat) : Int)) (climb s t, true) := by
  intro d
  have h1 := h.2.2.1
  have h12 := h.2.2.2.1
  have hl := h.1.2.2
  induction d with
  | zero =>
    intro i hd hi
    refine Ev.step (fun k => impl_ClimbOf.l0.eq_2 ..) ?_
    simp (disch := omega) only [if_pos, if_neg, w64, rdn, rd0, tn, sc, Option.bind_some, ↓reduceIte, Bool.false_eq_true, Bool.true_eq_false]
    exact Ev.val (by unfold climb; rw [show i = t.length - 1 from by omega])
  | succ d ih =>
    intro i hd hi
    refine Ev.step (fun k => impl_ClimbOf.l0.eq_2 ..) ?_
    have hb := climbTo_bd s t i
    have hw : wrap64 (((i + 1 : Nat) : Int) - 1) = (i : Int) := by rw [w64 (by omega) (by omega)]; omega
    have b1 := h.2.2.2.2.1 i (by omega)
    have b2 := h.2.2.2.2.1 (i + 1) (by omega)
    obtain ⟨a, ha⟩ := Int.eq_ofNat_of_zero_le b1.1
    obtain ⟨b, hb'⟩ := Int.eq_ofNat_of_zero_le b2.1
    have er := impl_rise_eq s h.1.2.1.2.2.2.2 (show a < s.length by omega) (show b < s.length by omega)
    have hr := rise_bound (G s a) (G s b)
    have hn := ih (i + 1) (by omega) (by omega)
    rw [climbTo_succ, ha, hb'] at hn
    simp only [tn] at hn
    simp only [hw, rdn, ha, hb', er, Option.bind_some]
    clear hw er
    simp (disch := omega) only [if_pos, if_neg, w64, rdn, rd0, tn, sc, Option.bind_some, ↓reduceIte, Bool.false_eq_true, Bool.true_eq_false]
    exact hn
theorem impl_ClimbOf_ev (net s t : List Int) (hn : net.length ≤ 1048576) (hs : s.length ≤ 1048576) (ht : t.length ≤ 1048576) : Ev (fun k => impl_ClimbOf.f k net s t) (climbOf net s t) := by
  unfold impl_ClimbOf.f
  refine Ev.bind (impl_TourOk_ev net t hn ht) ?_
  by_cases h2 : TourP net t
  · simp only [h2, decide_true]
    simp (disch := omega) only [if_pos, if_neg, w64, rdn, rd0, tn, sc, Option.bind_some, ↓reduceIte, Bool.false_eq_true, Bool.true_eq_false]
    refine Ev.bind (impl_asked_ev net s 3 hn hs) ?_
    by_cases h : Asked net 3 s
    · simp only [h, decide_true, Bool.not_true]
      rw [climbOf_yes ⟨h, h2⟩]
      refine Ev.step (fun k => impl_ClimbOf.j0.eq_2 ..) ?_
      simp (disch := omega) only [if_pos, if_neg, w64, rdn, rd0, tn, sc, Option.bind_some, ↓reduceIte, Bool.false_eq_true, Bool.true_eq_false]
      exact impl_ClimbOf_l0 net s t ⟨h, h2⟩ _ 0 rfl (by omega)
    · simp only [h, decide_false, Bool.not_false]
      rw [climbOf_no (fun g => h g.1)]
      refine Ev.step (fun k => impl_ClimbOf.j0.eq_2 ..) ?_
      simp (disch := omega) only [if_pos, if_neg, w64, rdn, rd0, tn, sc, Option.bind_some, ↓reduceIte, Bool.false_eq_true, Bool.true_eq_false]
      exact Ev.now _
  · simp only [h2, decide_false]
    rw [climbOf_no (fun g => h2 g.2)]
    simp (disch := omega) only [if_pos, if_neg, w64, rdn, rd0, tn, sc, Option.bind_some, ↓reduceIte, Bool.false_eq_true, Bool.true_eq_false]
    refine Ev.step (fun k => impl_ClimbOf.j0.eq_2 ..) ?_
    simp (disch := omega) only [if_pos, if_neg, w64, rdn, rd0, tn, sc, Option.bind_some, ↓reduceIte, Bool.false_eq_true, Bool.true_eq_false]
    exact Ev.now _

theorem l20Tour_l (b : List Int) (hb : RdOk b) (net : List Int) (h1 : 1 ≤ net.length) (h6 : net.length ≤ 6) : ∀ (d : Nat),
    (∀ (x : List Int) (p : Int), 1 ≤ x.length → x.length + d ≤ 20 → (∀ j, j < x.length → 0 ≤ G x j ∧ G x j < net.length) → 0 ≤ p → p ≤ 10000 - 2 * d →
      ∃ r p', Ev (fun k => spec_l20Tour.l0 k net x (d : Int) b p) (r, p') ∧ p ≤ p' ∧ p' ≤ p + 2 * d + 2 ∧ 1 ≤ r.length ∧ r.length ≤ 21 ∧ (∀ j, j < r.length → 0 ≤ G r j ∧ G r j < 7)) := by
  intro d
  induction d with
  | zero =>
    intro x p hx1 hx hxb hp hp2
    obtain ⟨c, p1, hc, hc1, hc2, _⟩ := odd_ev b hb p 14 hp (by omega) (by omega)
    cases c with
    | false =>
      refine ⟨x, p1, ?_, by omega, by omega, by omega, by omega, fun j hj => by have := hxb j hj; omega⟩
      refine Ev.step (fun k => spec_l20Tour.l0.eq_2 ..) ?_
      simp (disch := omega) only [if_pos, if_neg, w64, rdn, rd0, tn, sc, Option.bind_some, ↓reduceIte, Bool.false_eq_true, Bool.true_eq_false]
      refine Ev.bind hc ?_
      simp (disch := omega) only [if_pos, if_neg, w64, rdn, rd0, tn, sc, Option.bind_some, ↓reduceIte, Bool.false_eq_true, Bool.true_eq_false]
      exact Ev.now _
    | true =>
      obtain ⟨v, hv, hv0, hv1, _⟩ := pick_ev b hb p1 7 (by omega) (by omega) (by omega)
      refine ⟨x ++ [v], p1 + 1, ?_, by omega, by omega, by simp, by simp; omega, fun j hj => ?_⟩
      · refine Ev.step (fun k => spec_l20Tour.l0.eq_2 ..) ?_
        simp (disch := omega) only [if_pos, if_neg, w64, rdn, rd0, tn, sc, Option.bind_some, ↓reduceIte, Bool.false_eq_true, Bool.true_eq_false]
        refine Ev.bind hc ?_
        simp (disch := omega) only [if_pos, if_neg, w64, rdn, rd0, tn, sc, Option.bind_some, ↓reduceIte, Bool.false_eq_true, Bool.true_eq_false]
        refine Ev.bind hv ?_
        simp (disch := omega) only [if_pos, if_neg, w64, rdn, rd0, tn, sc, Option.bind_some, ↓reduceIte, Bool.false_eq_true, Bool.true_eq_false]
        exact Ev.now _
      · by_cases e : j < x.length
        · rw [G_append_left e]; have := hxb j e; omega
        · simp at hj
          rw [G_append_right (by omega), show j - x.length = 0 from by omega]; simp [G]; omega
  | succ d ih =>
    intro x p hx1 hx hxb hp hp2
    have inner : ∀ (m : Nat), m < net.length → ∀ (at' : Nat), at' < net.length → ∀ (q i : Nat), i + q = net.length → ∃ r p', Ev (fun k => spec_l20Tour.l1 k net x ((d + 1 : Nat) : Int) (at' : Int) (m : Int) (i : Int) b (p + 1)) (r, p') ∧ p ≤ p' ∧ p' ≤ p + 2 * (d + 1) + 2 ∧ 1 ≤ r.length ∧ r.length ≤ 21 ∧ (∀ j, j < r.length → 0 ≤ G r j ∧ G r j < 7) := by
      intro m hm0 at' hat q
      induction q with
      | zero =>
        intro i hq
        obtain ⟨r, p', hr, h2, h3, h4⟩ := ih x (p + 1) hx1 (by omega) hxb (by omega) (by omega)
        refine ⟨r, p', ?_, by omega, by omega, h4⟩
        have hw : wrap64 (((d + 1 : Nat) : Int) - 1) = (d : Int) := by rw [w64 (by omega) (by omega)]; omega
        refine Ev.step (fun k => spec_l20Tour.l1.eq_2 ..) ?_
        simp only [hw]
        clear hw
        simp (disch := omega) only [if_pos, if_neg, w64, rdn, rd0, tn, sc, Option.bind_some, ↓reduceIte, Bool.false_eq_true, Bool.true_eq_false]
        exact hr
      | succ q ihq =>
        intro i hq
        obtain ⟨t, hm, hlt⟩ := tmod_some (m + i) net.length (Nat.lt_of_lt_of_le Nat.zero_lt_one h1)
        by_cases e : Int.tmod (shr .i64 (G net at') (t : Int)) 2 = 1
        · obtain ⟨r, p', hr, h2, h3, h4⟩ := ih (x ++ [(t : Int)]) (p + 1) (by simp) (by simp; omega) (fun j hj => by
            by_cases e : j < x.length
            · rw [G_append_left e]; exact hxb j e
            · simp at hj
              rw [G_append_right (by omega), show j - x.length = 0 from by omega]; simp [G]; omega) (by omega) (by omega)
          refine ⟨r, p', ?_, by omega, by omega, h4⟩
          refine Ev.step (fun k => spec_l20Tour.l1.eq_2 ..) ?_
          have hw : wrap64 (((d + 1 : Nat) : Int) - 1) = (d : Int) := by clear hm e h2 h3 h4; rw [w64 (by omega) (by omega)]; omega
          have hw2 : wrap64 ((m : Int) + (i : Int)) = ((m + i : Nat) : Int) := by clear hm e h2 h3 h4 hw; rw [w64 (by omega) (by omega)]; omega
          have hw3 : wrap64 ((i : Int) + 1) = ((i + 1 : Nat) : Int) := by clear hm e h2 h3 h4 hw hw2; rw [w64 (by omega) (by omega)]; omega
          simp only [hw, hw2, hw3, hm, rdn, e]
          clear hm hw hw2 hw3 e h2 h3 h4
          simp (disch := omega) only [if_pos, if_neg, w64, rdn, rd0, tn, sc, Option.bind_some, ↓reduceIte, Bool.false_eq_true, Bool.true_eq_false]
          exact hr
        · obtain ⟨r, p', hr, h2, h3, h4⟩ := ihq (i + 1) (by omega)
          refine ⟨r, p', ?_, by omega, by omega, h4⟩
          refine Ev.step (fun k => spec_l20Tour.l1.eq_2 ..) ?_
          have hw : wrap64 (((d + 1 : Nat) : Int) - 1) = (d : Int) := by clear hm e h2 h3 h4; rw [w64 (by omega) (by omega)]; omega
          have hw2 : wrap64 ((m : Int) + (i : Int)) = ((m + i : Nat) : Int) := by clear hm e h2 h3 h4 hw; rw [w64 (by omega) (by omega)]; omega
          have hw3 : wrap64 ((i : Int) + 1) = ((i + 1 : Nat) : Int) := by clear hm e h2 h3 h4 hw hw2; rw [w64 (by omega) (by omega)]; omega
          simp only [hw, hw2, hw3, hm, rdn, e]
          clear hm hw hw2 hw3 e h2 h3 h4
          simp (disch := omega) only [if_pos, if_neg, w64, rdn, rd0, tn, sc, Option.bind_some, ↓reduceIte, Bool.false_eq_true, Bool.true_eq_false]
          exact hr
    obtain ⟨v, hv, hv0, hv1, _⟩ := pick_ev b hb p (net.length : Int) hp (by omega) (by omega)
    obtain ⟨m, rfl⟩ := Int.eq_ofNat_of_zero_le hv0
    have hat := hxb (x.length - 1) (by omega)
    obtain ⟨at', hAt⟩ := Int.eq_ofNat_of_zero_le hat.1
    obtain ⟨r, p', hr, h⟩ := inner m (by omega) at' (by omega) net.length 0 (by omega)
    refine ⟨r, p', ?_, h⟩
    have hw1 : wrap64 ((x.length : Int) - 1) = ((x.length - 1 : Nat) : Int) := by rw [w64 (by omega) (by omega)]; omega
    refine Ev.step (fun k => spec_l20Tour.l0.eq_2 ..) ?_
    simp only [hw1, rdn, hAt]
    clear hw1 hAt h inner
    simp (disch := omega) only [if_pos, if_neg, w64, rdn, rd0, tn, sc, Option.bind_some, ↓reduceIte, Bool.false_eq_true, Bool.true_eq_false]
    refine Ev.bind hv ?_
    exact hr
theorem l20Tour_ev (b : List Int) (hb : RdOk b) (net : List Int) (h6 : net.length ≤ 6) (p : Int) (hp : 0 ≤ p) (hp2 : p ≤ 9000) :
    ∃ r p', Ev (fun k => spec_l20Tour.f k b p net) (r, p') ∧ p ≤ p' ∧ p' ≤ p + 30 ∧ 1 ≤ r.length ∧ r.length ≤ 21 ∧ (∀ j, j < r.length → 0 ≤ G r j ∧ G r j < 7) := by
  unfold spec_l20Tour.f
  by_cases h0 : net.length = 0
  · refine ⟨[0], p, ?_, by omega, by omega, by simp, by simp, fun j hj => ?_⟩
    · simp (disch := omega) only [if_pos, if_neg, w64, rdn, rd0, tn, sc, Option.bind_some, ↓reduceIte, Bool.false_eq_true, Bool.true_eq_false]
      exact Ev.now _
    · simp at hj; subst hj; simp [G]
  · obtain ⟨v, hv, hv0, hv1, _⟩ := pick_ev b hb p (net.length : Int) hp (by omega) (by omega)
    obtain ⟨u, hu, hu0, hu1, _⟩ := pick_ev b hb (p + 1) 9 (by omega) (by omega) (by omega)
    obtain ⟨q, rfl⟩ := Int.eq_ofNat_of_zero_le hu0
    obtain ⟨r, p', hr, h2, h3, h4⟩ := l20Tour_l b hb net (by omega) h6 q [v] (p + 1 + 1) (by simp) (by simp; omega) (fun j hj => by simp at hj; subst hj; simp [G]; omega) (by omega) (by omega)
    refine ⟨r, p', ?_, by omega, by omega, h4⟩
    simp (disch := omega) only [if_pos, if_neg, w64, rdn, rd0, tn, sc, Option.bind_some, ↓reduceIte, Bool.false_eq_true, Bool.true_eq_false]
    refine Ev.bind hv ?_
    refine Ev.bind hu ?_
    exact hr

theorem DrawTourOk_ev (l : List Int) (h : ∀ x ∈ l, (Lit.int .u8 x).wf = true) : ∃ net t, Ev (fun k => spec_DrawTourOk.f k l) (net, t) ∧ net.length ≤ 6 ∧ 1 ≤ t.length ∧ t.length ≤ 25 := by
  obtain ⟨b, hb, hR⟩ := spec_l20Open_eq l h
  obtain ⟨net, p1, hn, _, _, hn6⟩ := l20Net_ev b hR 14 0 (by omega) (by omega) (by omega)
  obtain ⟨t, p2, ht, _, _, ht1, ht2, _⟩ := l20Tour_ev b hR net hn6 p1 (by omega) (by omega)
  obtain ⟨c, p3, hc, _, _, _⟩ := odd_ev b hR p2 4 (by omega) (by omega) (by omega)
  have e4 : ([0, 1, 0, 1] : List Int).length = 4 := rfl
  cases c with
  | true =>
    refine ⟨net, t ++ [0, 1, 0, 1], ?_, hn6, by simp, by simp; omega⟩
    unfold spec_DrawTourOk.f
    rw [hb]
    simp only [Option.bind_some]
    refine Ev.bind hn ?_
    refine Ev.bind ht ?_
    refine Ev.bind hc ?_
    simp only [e4]
    simp (disch := omega) only [if_pos, if_neg, w64, rdn, rd0, tn, sc, Option.bind_some, ↓reduceIte, Bool.false_eq_true, Bool.true_eq_false]
    exact Ev.now _
  | false =>
    refine ⟨net, t, ?_, hn6, by omega, by omega⟩
    unfold spec_DrawTourOk.f
    rw [hb]
    simp only [Option.bind_some]
    refine Ev.bind hn ?_
    refine Ev.bind ht ?_
    refine Ev.bind hc ?_
    simp (disch := omega) only [if_pos, if_neg, w64, rdn, rd0, tn, sc, Option.bind_some, ↓reduceIte, Bool.false_eq_true, Bool.true_eq_false]
    exact Ev.now _

-- needs Best
theorem FnBestTour : laws_FnBestTour.Pure := by
  intro l m _ _ hwf _ _ hwf2
  refine Ev.rounds (r := true) ?_
  obtain ⟨net, s, a, t, hr, h6, h7, ha0, ha1, ht0, ht1⟩ := DrawBestTour_ev l hwf
  obtain ⟨net2, u, hr2, g6, gu1, gu2⟩ := DrawTourOk_ev m hwf2
  unfold laws_FnBestTour.f
  by_cases hl : l.length ≤ 1048576
  · simp only [show ¬ (l.length : Int) > 1048576 by omega, if_false]
    refine Ev.step (fun k => laws_FnBestTour.j0.eq_2 ..) ?_
    by_cases hm : m.length ≤ 1048576
    · have e0 : decide ((m.length : Int) > 1048576) = false := decide_eq_false (by omega)
      simp only [e0, Bool.false_eq_true, if_false]
      clear e0
      refine Ev.bind hr ?_
      refine Ev.bind (impl_BestTour_ev net s a t (by omega) (by omega)) ?_
      refine Ev.bind (spec_BestTour_ev net s a t (by omega) (by omega)) ?_
      have hbl := bestTour_length net s a t
      refine Ev.bind (laws_sameInts_ev _ _ (Nat.le_trans hbl (by decide))) ?_
      clear hbl
      simp only [decide_true, if_true]
      by_cases h : Asked net 3 s ∧ 0 ≤ t ∧ t < 12 ∧ 0 ≤ a ∧ a < net.length
      · obtain ⟨hA, h1, h2, h3, h4⟩ := h
        obtain ⟨i, rfl⟩ := Int.eq_ofNat_of_zero_le h3
        obtain ⟨q, rfl⟩ := Int.eq_ofNat_of_zero_le h1
        have hl2 := hA.2.2
        obtain ⟨b, hb⟩ := few_exists hA (show i < s.length by omega) q
        have hbq := hb.1
        have hw := few_wired hA (show i < s.length by omega) hb
        obtain ⟨hT, hC⟩ := route_tour hA b i (by omega) (by omega) hw
        have n1 : b + 1 ≤ 1048576 := by omega
        have n2 : ¬ ((b + 1 : Nat) : Int) = 0 := by omega
        have n3 : 0 < ((b + 1 : Nat) : Int) := by omega
        have n4 : ((b + 1 : Nat) : Int) ≤ (q : Int) + 1 := by omega
        have n5 : net.length ≤ 1048576 := by omega
        have n6 : s.length ≤ 1048576 := by omega
        have n7 : u.length ≤ 1048576 := by omega
        have n8 : q < 12 := by omega
        have n9 : q ≤ 60 := by omega
        have n10 : i < net.length := by omega
        have hwt : wrap64 ((q : Int) + 1) = (q : Int) + 1 := w64 (by omega) (by omega)
        rw [bestTour_eq hA n8 n10 hb]
        have ln : ((i : Int) :: route net s b i).length = b + 1 := by rw [List.length_cons, route_length net s b i]
        have c0 : ¬ (((i : Int) :: route net s b i).length : Int) = 0 := by rw [ln]; exact n2
        simp only [c0, if_false]
        refine Ev.bind (impl_MostClimb_ev net s (q : Int) n5 n6) ?_
        rw [turnedRow_yes hA n9]
        refine Ev.bind (impl_ClimbOf_ev net s ((i : Int) :: route net s b i) n5 n6 (by rw [ln]; exact n1)) ?_
        rw [climbOf_yes ⟨hA, hT⟩, hC]
        refine Ev.bind hr2 ?_
        refine Ev.bind (impl_ClimbOf_ev net s u n5 n6 n7) ?_
        refine Ev.bind (impl_TourOk_ev net ((i : Int) :: route net s b i) n5 (by rw [ln]; exact n1)) ?_
        have c1 : 0 < (((i : Int) :: route net s b i).length : Int) := by rw [ln]; exact n3
        have eg : G ((i : Int) :: route net s b i) 0 = (i : Int) := rfl
        have c2 : (((i : Int) :: route net s b i).length : Int) ≤ (q : Int) + 1 := by rw [ln]; exact n4
        clear ln c0
        have c3 : (i : Int) < ((mk s.length (turnedN net s q)).length : Int) := by rw [mk_length]; omega
        have c4 : 0 ≤ (i : Int) := by omega
        have em : G (mk s.length (turnedN net s q)) i = turnedN net s q i := G_mk _ (by omega)
        have hj := hb.2.1
        simp only [hT, decide_true, if_true, c1, rd0, eg, hwt, c2, c3, c4, rdn, em, hj]
        clear c1 c2 c3 eg em hwt hT hC
        by_cases hu : ClimbP net s u
        · rw [climbOf_yes hu]
          have d1 : 0 < (u.length : Int) := by omega
          simp only [if_true, d1]
          by_cases d2 : G u 0 = (i : Int)
          · simp only [d2, if_true]
            by_cases d3 : (u.length : Int) > (q : Int) + 1
            · simp only [d3, if_true]
              exact Ev.now _
            · simp only [d3, if_false]
              have e1 := climb_le_most hA u hu.2
              rw [d2] at e1
              have e2 := turnedN_le (net := net) (s := s) (i := i) (show u.length - 1 ≤ q by omega)
              have e3 : climb s u ≤ turnedN net s q i := Int.le_trans e1 e2
              exact Ev.val (decide_eq_true e3)
          · simp only [d2, if_false]
            exact Ev.now _
        · rw [climbOf_no hu]
          simp only [Bool.false_eq_true, if_false]
          exact Ev.now _
      · rw [bestTour_no h]
        have c0 : (([] : List Int).length : Int) = 0 := rfl
        simp only [c0, if_true]
        refine Ev.bind alive_ev ?_
        exact Ev.now _
    · have e0 : decide ((m.length : Int) > 1048576) = true := decide_eq_true (by omega)
      simp only [e0, if_true]
      exact Ev.now _
  · simp only [show (l.length : Int) > 1048576 by omega, if_true]
    refine Ev.step (fun k => laws_FnBestTour.j0.eq_2 ..) ?_
    simp only [if_true]
    exact Ev.now _

end Go.Proofs.Ytkofidpgbmajdaa.Pure
