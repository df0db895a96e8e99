/- Proved: the statement FnTurnNamed, for every input, without further conditions. -/
import Derived.Test.YtgkjapgfldnjkaaPFnTurnNamedx9
import Derived.Test.YtgkjapgfldnjkaaBase
import Derived.Test.YtgkjapgfldnjkaaNamed
import Derived.Test.YtgkjapgfldnjkaaTurn
namespace Go.Proofs.Ytgkjapgfldnjkaa.Pure
open Go.RowKit Go.Proofs.Ytgkjapgfldnjkaa.PFnTurnNamed Go.Proofs.YtgkjapgfldnjkaaW.PrintWords Go.Proofs.YtgkjapgfldnjkaaW.PrintLast Go.Proofs.Ytgkjapgfldnjkaa.B Go.Proofs.Ytgkjapgfldnjkaa.C
set_option linter.unusedSimpArgs false
set_option linter.unusedVariables false

theorem impl_NetOk_l1 (l : List Int) (h6 : l.length ≤ 6) (i : Nat) (hi : i < l.length) (r : Bool)
    (hbad : ∀ k, k < l.length → ¬ (adj l i k ↔ adj l k i) → r = false)
    (hgood : (∀ k, k < l.length → (adj l i k ↔ adj l k i)) → Ev (fun k => impl_NetOk.l0 k l l (l.length : Int) ((i + 1 : Nat) : Int)) r) :
    ∀ (d : Nat) (j : Nat), l.length - j = d → j ≤ l.length → (∀ k, k < j → (adj l i k ↔ adj l k i)) →
      Ev (fun k => impl_NetOk.l1 k l (i : Int) (G l i) l (l.length : Int) (i : Int) (l.length : Int) (j : Int)) r := by
  intro d
  induction d with
  | zero =>
    intro j hd hj hk
    refine Ev.step (fun k => impl_NetOk.l1.eq_2 ..) ?_
    simp (disch := omega) only [if_pos, if_neg, w64, rdn, rd0, tn, sc, Option.bind_some, ↓reduceIte, Bool.false_eq_true, Bool.true_eq_false]
    exact hgood (fun k hkl => hk k (by omega))
  | succ d ih =>
    intro j hd hj hk
    refine Ev.step (fun k => impl_NetOk.l1.eq_2 ..) ?_
    have b1 := bit_and (G l i) (j := j) (by omega)
    have b2 := bit_and (G l j) (j := i) (by omega)
    have m1 := Int.emod_two_eq (G l i / 2 ^ j)
    have m2 := Int.emod_two_eq (G l j / 2 ^ i)
    by_cases e : adj l i j ↔ adj l j i
    · have e' : G l i / 2 ^ j % 2 = G l j / 2 ^ i % 2 := by
        unfold adj at e
        by_cases c : G l i / 2 ^ j % 2 = 1
        · rw [c, e.1 c]
        · have c2 := fun h => c (e.2 h)
          omega
      simp only [rdn, b1, b2]
      simp (disch := omega) only [if_pos, if_neg, w64, rdn, rd0, tn, sc, Option.bind_some, ↓reduceIte, Bool.false_eq_true, Bool.true_eq_false]
      refine ih _ (by omega) (by omega) ?_
      intro k hkj
      by_cases e' : k = j
      · subst e'; exact e
      · exact hk k (by omega)
    · have e' : ¬ G l i / 2 ^ j % 2 = G l j / 2 ^ i % 2 := by
        intro h
        apply e
        unfold adj
        rw [h]
      simp only [rdn, b1, b2]
      simp (disch := omega) only [if_pos, if_neg, w64, rdn, rd0, tn, sc, Option.bind_some, ↓reduceIte, Bool.false_eq_true, Bool.true_eq_false]
      exact Ev.val (hbad j (by omega) e).symm
theorem impl_NetOk_l0 (l : List Int) (h1 : 1 ≤ l.length) (h6 : l.length ≤ 6) : ∀ (d : Nat) (i : Nat), l.length - i = d → i ≤ l.length →
    (∀ j, j < i → (0 ≤ G l j ∧ G l j < 2 ^ l.length ∧ ¬ adj l j j ∧ ∀ k, k < l.length → (adj l j k ↔ adj l k j))) → Ev (fun k => impl_NetOk.l0 k l l (l.length : Int) (i : Int)) (decide (NetP l)) := by
  intro d
  induction d with
  | zero =>
    intro i hd hi hj
    refine Ev.step (fun k => impl_NetOk.l0.eq_2 ..) ?_
    simp (disch := omega) only [if_pos, if_neg, w64, rdn, rd0, tn, sc, Option.bind_some, ↓reduceIte, Bool.false_eq_true, Bool.true_eq_false]
    have : NetP l := ⟨h1, h6, fun j h => hj j (by omega)⟩
    exact Ev.val (by simp [this])
  | succ d ih =>
    intro i hd hi hj
    refine Ev.step (fun k => impl_NetOk.l0.eq_2 ..) ?_
    have hs := shl1 (n := l.length) (by omega)
    have hb := bit_and (G l i) (j := i) (by omega)
    simp only [rdn, hs, hb]
    have bad : ¬ (0 ≤ G l i ∧ G l i < 2 ^ l.length ∧ ¬ adj l i i) → decide (NetP l) = false := by
      intro h
      have : ¬ NetP l := fun p => h ⟨(p.2.2 i (by omega)).1, (p.2.2 i (by omega)).2.1, (p.2.2 i (by omega)).2.2.1⟩
      simp [this]
    by_cases e0 : G l i < 0
    · simp (disch := omega) only [if_pos, if_neg, w64, rdn, rd0, tn, sc, Option.bind_some, ↓reduceIte, Bool.false_eq_true, Bool.true_eq_false]
      refine Ev.step (fun k => impl_NetOk.j2.eq_2 ..) ?_
      simp (disch := omega) only [if_pos, if_neg, w64, rdn, rd0, tn, sc, Option.bind_some, ↓reduceIte, Bool.false_eq_true, Bool.true_eq_false]
      exact Ev.val (bad (by omega)).symm
    · by_cases e1 : G l i ≥ 2 ^ l.length
      · simp (disch := omega) only [if_pos, if_neg, w64, rdn, rd0, tn, sc, Option.bind_some, ↓reduceIte, Bool.false_eq_true, Bool.true_eq_false]
        refine Ev.step (fun k => impl_NetOk.j2.eq_2 ..) ?_
        simp (disch := omega) only [if_pos, if_neg, w64, rdn, rd0, tn, sc, Option.bind_some, ↓reduceIte, Bool.false_eq_true, Bool.true_eq_false]
        exact Ev.val (bad (by omega)).symm
      · simp (disch := omega) only [if_pos, if_neg, w64, rdn, rd0, tn, sc, Option.bind_some, ↓reduceIte, Bool.false_eq_true, Bool.true_eq_false]
        refine Ev.step (fun k => impl_NetOk.j2.eq_2 ..) ?_
        by_cases e2 : G l i / 2 ^ i % 2 = 1
        · have e3 : (G l i / 2 ^ i % 2 == 1) = true := by simp [e2]
          simp only [e3]
          simp (disch := omega) only [if_pos, if_neg, w64, rdn, rd0, tn, sc, Option.bind_some, ↓reduceIte, Bool.false_eq_true, Bool.true_eq_false]
          exact Ev.val (bad (fun h => h.2.2 e2)).symm
        · have e3 : (G l i / 2 ^ i % 2 == 1) = false := by simp [e2]
          simp only [e3]
          simp (disch := omega) only [if_pos, if_neg, w64, rdn, rd0, tn, sc, Option.bind_some, ↓reduceIte, Bool.false_eq_true, Bool.true_eq_false]
          refine impl_NetOk_l1 l h6 i (by omega) _ ?_ ?_ _ 0 rfl (by omega) (fun k h => by omega)
          · intro k hk hn
            have : ¬ NetP l := fun p => hn ((p.2.2 i (by omega)).2.2.2 k hk)
            simp [this]
          · intro hall
            refine ih _ (by omega) (by omega) ?_
            intro j hji
            by_cases e' : j = i
            · subst e'; exact ⟨by omega, by omega, e2, hall⟩
            · exact hj j (by omega)
theorem impl_NetOk_ev (l : List Int) (hl : l.length ≤ 1048576) : Ev (fun k => impl_NetOk.f k l) (decide (NetP l)) := by
  unfold impl_NetOk.f
  by_cases h1 : l.length < 1
  · simp (disch := omega) only [if_pos, if_neg, w64, rdn, rd0, tn, sc, Option.bind_some, ↓reduceIte, Bool.false_eq_true, Bool.true_eq_false]
    refine Ev.step (fun k => impl_NetOk.j0.eq_2 ..) ?_
    simp (disch := omega) only [if_pos, if_neg, w64, rdn, rd0, tn, sc, Option.bind_some, ↓reduceIte, Bool.false_eq_true, Bool.true_eq_false]
    have : ¬ NetP l := fun p => by have := p.1; omega
    exact Ev.val (by simp [this])
  · simp (disch := omega) only [if_pos, if_neg, w64, rdn, rd0, tn, sc, Option.bind_some, ↓reduceIte, Bool.false_eq_true, Bool.true_eq_false]
    refine Ev.step (fun k => impl_NetOk.j0.eq_2 ..) ?_
    by_cases h6 : l.length > 6
    · have : decide ((l.length : Int) > 6) = true := by simp; omega
      simp only [this]
      simp (disch := omega) only [if_pos, if_neg, w64, rdn, rd0, tn, sc, Option.bind_some, ↓reduceIte, Bool.false_eq_true, Bool.true_eq_false]
      have : ¬ NetP l := fun p => by have := p.2.1; omega
      exact Ev.val (by simp [this])
    · have : decide ((l.length : Int) > 6) = false := by simp; omega
      simp only [this]
      simp (disch := omega) only [if_pos, if_neg, w64, rdn, rd0, tn, sc, Option.bind_some, ↓reduceIte, Bool.false_eq_true, Bool.true_eq_false]
      exact impl_NetOk_l0 l (by omega) (by omega) _ 0 rfl (by omega) (fun j h => by omega)

theorem alive_ev : Ev (fun k => laws_alive.f k) true := by
  unfold laws_alive.f
  refine Ev.bind (impl_NetOk_ev _ (by decide)) ?_
  have e1 : decide (NetP [2, 1]) = true := by decide
  simp only [e1]
  simp (disch := omega) only [if_pos, if_neg, w64, rdn, rd0, tn, sc, Option.bind_some, ↓reduceIte, Bool.false_eq_true, Bool.true_eq_false]
  refine Ev.bind (impl_NetOk_ev _ (by decide)) ?_
  have e2 : decide (NetP [1]) = false := by decide
  simp only [e2, Bool.not_false]
  exact Ev.now _

theorem laws_sameInts_l0 (a b : List Int) (hl : a.length ≤ 1048576) (hab : a.length = b.length) : ∀ (d : Nat) (i : Nat), a.length - i = d → i ≤ a.length → (∀ j, j < i → G a j = G b j) → Ev (fun k => laws_sameInts.l0 k a b (i : Int)) (decide (a = b)) := by
  intro d
  induction d with
  | zero =>
    intro i hd hi hj
    refine Ev.step (fun k => laws_sameInts.l0.eq_2 ..) ?_
    simp (disch := omega) only [if_pos, if_neg, w64, rdn, rd0, tn, sc, Option.bind_some, ↓reduceIte, Bool.false_eq_true, Bool.true_eq_false]
    have e : a = b := ext hab (fun j h => hj j (by omega))
    exact Ev.val (by simp [e])
  | succ d ih =>
    intro i hd hi hj
    refine Ev.step (fun k => laws_sameInts.l0.eq_2 ..) ?_
    by_cases e : G a i = G b i
    · simp (disch := omega) only [if_pos, if_neg, w64, rdn, rd0, tn, sc, Option.bind_some, ↓reduceIte, Bool.false_eq_true, Bool.true_eq_false]
      refine ih _ (by omega) (by omega) ?_
      intro j hji
      by_cases e' : j = i
      · subst e'; exact e
      · exact hj j (by omega)
    · simp (disch := omega) only [if_pos, if_neg, w64, rdn, rd0, tn, sc, Option.bind_some, ↓reduceIte, Bool.false_eq_true, Bool.true_eq_false]
      have : a ≠ b := fun h => e (by rw [h])
      exact Ev.val (by simp [this])
theorem laws_sameInts_ev (a b : List Int) (hl : a.length ≤ 1048576) : Ev (fun k => laws_sameInts.f k a b) (decide (a = b)) := by
  unfold laws_sameInts.f
  by_cases hab : a.length = b.length
  · simp (disch := omega) only [if_pos, if_neg, w64, rdn, rd0, tn, sc, Option.bind_some, ↓reduceIte, Bool.false_eq_true, Bool.true_eq_false]
    exact laws_sameInts_l0 a b hl hab _ 0 rfl (by omega) (fun j h => by omega)
  · simp (disch := omega) only [if_pos, if_neg, w64, rdn, rd0, tn, sc, Option.bind_some, ↓reduceIte, Bool.false_eq_true, Bool.true_eq_false]
    have : a ≠ b := fun h => hab (by rw [h])
    exact Ev.val (by simp [this])
theorem laws_sameInts_self (a : List Int) (hl : a.length ≤ 1048576) : Ev (fun k => laws_sameInts.f k a a) true := by
  have h := laws_sameInts_ev a a hl
  simpa using h

/-- A reader's bytes. -/
def RdOk (b : List Int) : Prop := b.length ≤ 2000 ∧ ∀ i, 0 ≤ G b i ∧ G b i ≤ 255
theorem spec_l20Open_eq (l : List Int) (h : ∀ x ∈ l, (Lit.int .u8 x).wf = true) : ∃ b, spec_l20Open.f l = some (b, 0) ∧ RdOk b := by
  have hl : ∀ i, 0 ≤ G l i ∧ G l i ≤ 255 := by
    intro i
    by_cases e : i < l.length
    · exact wf_u8.1 (h _ (G_mem e))
    · rw [G_of_ge (by omega)]; omega
  unfold spec_l20Open.f
  by_cases e : l.length > 2000
  · simp (disch := omega) only [if_pos, if_neg, w64, rdn, rd0, tn, sc, Option.bind_some, ↓reduceIte, Bool.false_eq_true, Bool.true_eq_false]
    refine ⟨_, rfl, by simp; omega, fun i => ?_⟩
    by_cases ei : i < 2000
    · rw [G_take ei]; exact hl i
    · rw [G_of_ge (by simp; omega)]; omega
  · simp (disch := omega) only [if_pos, if_neg, w64, rdn, rd0, tn, sc, Option.bind_some, ↓reduceIte, Bool.false_eq_true, Bool.true_eq_false]
    exact ⟨_, rfl, by omega, hl⟩

theorem xor_nn {a b : Int} (ha : 0 ≤ a) (ha' : a < 4611686018427387904) (hb : 0 ≤ b) (hb' : b < 4611686018427387904) : 0 ≤ Go.bits .xor .i64 a b := by
  obtain ⟨m, rfl⟩ := Int.eq_ofNat_of_zero_le ha
  obtain ⟨n, rfl⟩ := Int.eq_ofNat_of_zero_le hb
  show 0 ≤ IntKind.i64.wrap (((BitVec.ofInt 64 (m : Int) ^^^ BitVec.ofInt 64 (n : Int)).toNat : Nat) : Int)
  have hx : (BitVec.ofInt 64 (m : Int) ^^^ BitVec.ofInt 64 (n : Int)).toNat < 2 ^ 62 := by
    rw [BitVec.toNat_xor]
    apply Nat.xor_lt_two_pow
    · rw [BitVec.ofInt_natCast, BitVec.toNat_ofNat, Nat.mod_eq_of_lt (by omega)]; omega
    · rw [BitVec.ofInt_natCast, BitVec.toNat_ofNat, Nat.mod_eq_of_lt (by omega)]; omega
  rw [i64_w, w64 (by omega) (by omega)]; omega
theorem pick_ev (b : List Int) (hb : RdOk b) (p n : Int) (hp : 0 ≤ p) (hp2 : p ≤ 1000000) (hn : n ≤ 1000000) :
    ∃ v, Ev (fun k => spec_l20Rd_pick.f k b p n) (v, p + 1) ∧ 0 ≤ v ∧ (1 ≤ n → v < n) ∧ (n < 1 → v = 0) := by
  obtain ⟨q, rfl⟩ := Int.eq_ofNat_of_zero_le hp
  unfold spec_l20Rd_pick.f
  have hw : wrap64 ((q : Int) + 1) = (q : Int) + 1 := w64 (by omega) (by omega)
  have hw2 : wrap64 ((q : Int) + 1 - 1) = (q : Int) := by rw [w64 (by omega) (by omega)]; omega
  by_cases h1 : n < 1
  · refine ⟨0, ?_, by omega, fun h => by omega, fun _ => rfl⟩
    simp only [hw]
    rw [show (fun k => if n < 1 then spec_l20Rd_pick.j0 k n true b ((q : Int) + 1) else spec_l20Rd_pick.j0 k n ((b.length : Int) == 0) b ((q : Int) + 1)) = (fun k => spec_l20Rd_pick.j0 k n true b ((q : Int) + 1)) from funext fun k => if_pos h1]
    refine Ev.step (fun k => spec_l20Rd_pick.j0.eq_2 ..) ?_
    simp only [↓reduceIte]
    exact Ev.now _
  · simp only [hw]
    rw [show (fun k => if n < 1 then spec_l20Rd_pick.j0 k n true b ((q : Int) + 1) else spec_l20Rd_pick.j0 k n ((b.length : Int) == 0) b ((q : Int) + 1)) = (fun k => spec_l20Rd_pick.j0 k n ((b.length : Int) == 0) b ((q : Int) + 1)) from funext fun k => if_neg h1]
    by_cases h0 : b.length = 0
    · refine ⟨0, ?_, by omega, fun h => by omega, fun _ => rfl⟩
      have : ((b.length : Int) == 0) = true := beq_iff_eq.2 (by omega)
      rw [this]
      refine Ev.step (fun k => spec_l20Rd_pick.j0.eq_2 ..) ?_
      simp only [↓reduceIte]
      exact Ev.now _
    · have hz : ((b.length : Int) == 0) = false := beq_eq_false_iff_ne.2 (by omega)
      rw [hz]
      by_cases hq : q < b.length
      · have hg := hb.2 q
        have hwg : wrap64 (G b q) = G b q := w64 (by omega) (by omega)
        refine ⟨G b q % n, ?_, Int.emod_nonneg _ (by omega), fun h => Int.emod_lt_of_pos _ (by omega), fun h => absurd h h1⟩
        refine Ev.step (fun k => spec_l20Rd_pick.j0.eq_2 ..) ?_
        simp only [hw2, rdn, hwg]
        rw [tmod_nn hg.1]
        simp (disch := omega) only [if_pos, if_neg, w64, rdn, rd0, tn, sc, Option.bind_some, ↓reduceIte, Bool.false_eq_true, Bool.true_eq_false]
        exact Ev.now _
      · have hL := hb.1
        have hm1 : q % b.length < b.length := Nat.mod_lt _ (by omega)
        have hm2 : (q * 7 + 3) % b.length < b.length := Nat.mod_lt _ (by omega)
        have e1 : Int.tmod (q : Int) (b.length : Int) = ((q % b.length : Nat) : Int) := by rw [tmod_nn (by omega)]; rfl
        have e2 : wrap64 (wrap64 ((q : Int) * 7) + 3) = ((q * 7 + 3 : Nat) : Int) := by rw [w64 (n := (q : Int) * 7) (by omega) (by omega), w64 (by omega) (by omega)]; omega
        have e3 : Int.tmod ((q * 7 + 3 : Nat) : Int) (b.length : Int) = (((q * 7 + 3) % b.length : Nat) : Int) := by rw [tmod_nn (by omega)]; rfl
        obtain ⟨Q, hQ⟩ : ∃ Q, Q = q / b.length := ⟨_, rfl⟩
        have hd : Q ≤ q := by rw [hQ]; exact Nat.div_le_self _ _
        have e4 : Int.tdiv (q : Int) (b.length : Int) = (Q : Int) := by rw [tdiv_nn (by omega), hQ]; rfl
        clear hQ
        have g1 := hb.2 (q % b.length)
        have g2 := hb.2 ((q * 7 + 3) % b.length)
        have f1 : wrap64 (wrap64 (G b (q % b.length)) * 131) = G b (q % b.length) * 131 := by rw [w64 (n := G b (q % b.length)) (by omega) (by omega), w64 (by omega) (by omega)]
        have f2 : wrap64 (wrap64 (G b ((q * 7 + 3) % b.length)) * 1117) = G b ((q * 7 + 3) % b.length) * 1117 := by rw [w64 (n := G b ((q * 7 + 3) % b.length)) (by omega) (by omega), w64 (by omega) (by omega)]
        have f3 : wrap64 ((q : Int) * 29) = (q : Int) * 29 := w64 (by omega) (by omega)
        have f4 : wrap64 (wrap64 ((Q : Int)) * 53) = (Q : Int) * 53 := by rw [w64 (n := (Q : Int)) (by omega) (by omega), w64 (by omega) (by omega)]
        have f5 : wrap64 (G b (q % b.length) * 131 + G b ((q * 7 + 3) % b.length) * 1117) = G b (q % b.length) * 131 + G b ((q * 7 + 3) % b.length) * 1117 := w64 (by omega) (by omega)
        have f6 : wrap64 (G b (q % b.length) * 131 + G b ((q * 7 + 3) % b.length) * 1117 + (q : Int) * 29) = G b (q % b.length) * 131 + G b ((q * 7 + 3) % b.length) * 1117 + (q : Int) * 29 := w64 (by omega) (by omega)
        have f7 : wrap64 (G b (q % b.length) * 131 + G b ((q * 7 + 3) % b.length) * 1117 + (q : Int) * 29 + (Q : Int) * 53) = G b (q % b.length) * 131 + G b ((q * 7 + 3) % b.length) * 1117 + (q : Int) * 29 + (Q : Int) * 53 := w64 (by omega) (by omega)
        obtain ⟨X, hX⟩ : ∃ X, X = G b (q % b.length) * 131 + G b ((q * 7 + 3) % b.length) * 1117 + (q : Int) * 29 + (Q : Int) * 53 := ⟨_, rfl⟩
        have hX0 : 0 ≤ X := by omega
        have hX1 : X < 4611686018427387904 := by omega
        have f8 : wrap64 (Int.tdiv X 64) = X / 64 := by rw [tdiv_nn hX0, w64 (by omega) (by omega)]
        have f9 : wrap64 X = X := w64 (by omega) (by omega)
        have hx := xor_nn hX0 hX1 (b := X / 64) (by omega) (by omega)
        refine ⟨Go.bits .xor .i64 X (X / 64) % n, ?_, Int.emod_nonneg _ (by omega), fun h => Int.emod_lt_of_pos _ (by omega), fun h => absurd h h1⟩
        refine Ev.step (fun k => spec_l20Rd_pick.j0.eq_2 ..) ?_
        simp only [hw2, e1, e2, e3, e4, rdn, f1, f2, f3, f4, f5, f6, f7, ← hX, f9, f8]
        rw [tmod_nn hx]
        simp (disch := omega) only [if_pos, if_neg, w64, rdn, rd0, tn, sc, Option.bind_some, ↓reduceIte, Bool.false_eq_true, Bool.true_eq_false]
        exact Ev.now _

theorem spec_l1In_eq (a b c : Int) : spec_l1In.f a b c = some (decide (b ≤ a ∧ a ≤ c)) := by
  unfold spec_l1In.f
  by_cases h : b ≤ a <;> simp [h]

theorem RingNet_l0 (n : Nat) (h1 : 3 ≤ n) (h6 : n ≤ 6) : ∀ (d i : Nat) (x : List Int), n - i = d → i ≤ n → x.length = i → ∃ r, Ev (fun k => spec_RingNet.l0 k (n : Int) x (i : Int)) r ∧ r.length = n := by
  intro d
  induction d with
  | zero =>
    intro i x hd hi hx
    refine ⟨x, ?_, by omega⟩
    refine Ev.step (fun k => spec_RingNet.l0.eq_2 ..) ?_
    simp (disch := omega) only [if_pos, if_neg, w64, rdn, rd0, tn, sc, Option.bind_some, ↓reduceIte, Bool.false_eq_true, Bool.true_eq_false]
    exact Ev.now _
  | succ d ih =>
    intro i x hd hi hx
    have e1 : spec_l1In.f (n : Int) 3 6 = some true := by rw [spec_l1In_eq]; simp; omega
    have hw0 : wrap64 ((i : Int) + 1) = ((i + 1 : Nat) : Int) := by rw [w64 (by omega) (by omega)]; rfl
    have hw1 : wrap64 (wrap64 ((i : Int) + (n : Int)) - 1) = ((i + n - 1 : Nat) : Int) := by
      rw [w64 (n := (i : Int) + (n : Int)) (by omega) (by omega), w64 (by omega) (by omega)]; omega
    have hm0 : Int.tmod ((i + 1 : Nat) : Int) (n : Int) = (((i + 1) % n : Nat) : Int) := by rw [tmod_nn (by omega)]; rfl
    have hm1 : Int.tmod ((i + n - 1 : Nat) : Int) (n : Int) = (((i + n - 1) % n : Nat) : Int) := by rw [tmod_nn (by omega)]; rfl
    obtain ⟨r, hr, hl⟩ := ih (i + 1) (x ++ [Go.bits .or .i64 (shl .i64 1 (((i + 1) % n : Nat) : Int)) (shl .i64 1 (((i + n - 1) % n : Nat) : Int))]) (by omega) (by omega) (by simp [hx])
    refine ⟨r, ?_, hl⟩
    refine Ev.step (fun k => spec_RingNet.l0.eq_2 ..) ?_
    simp only [hw0, hw1, hm0, hm1, e1, Option.bind_some]
    clear hw0 hw1 hm0 hm1 e1
    simp (disch := omega) only [if_pos, if_neg, w64, rdn, rd0, tn, sc, Option.bind_some, ↓reduceIte, Bool.false_eq_true, Bool.true_eq_false]
    exact hr
theorem RingNet_ev (n : Nat) (h1 : 3 ≤ n) (h6 : n ≤ 6) : ∃ r, Ev (fun k => spec_RingNet.f k (n : Int)) r ∧ r.length = n := by
  unfold spec_RingNet.f
  exact RingNet_l0 n h1 h6 _ 0 [] rfl (by omega) rfl

theorem odd_ev (b : List Int) (hb : RdOk b) (p n : Int) (hp : 0 ≤ p) (hp2 : p ≤ 1000000) (hn : n ≤ 1000000) :
    ∃ c p', Ev (fun k => spec_l20Rd_odd.f k b p n) (c, p') ∧ p ≤ p' ∧ p' ≤ p + 1 ∧ (n ≤ 0 → c = false) := by
  unfold spec_l20Rd_odd.f
  by_cases h : n > 0
  · obtain ⟨v, hv, _⟩ := pick_ev b hb p n hp hp2 hn
    refine ⟨v == wrap64 (n - 1), p + 1, ?_, by omega, by omega, fun h' => by omega⟩
    simp (disch := omega) only [if_pos, if_neg, w64, rdn, rd0, tn, sc, Option.bind_some, ↓reduceIte, Bool.false_eq_true, Bool.true_eq_false]
    refine Ev.bind hv ?_
    exact Ev.now _
  · refine ⟨false, p, ?_, by omega, by omega, fun _ => rfl⟩
    simp (disch := omega) only [if_pos, if_neg, w64, rdn, rd0, tn, sc, Option.bind_some, ↓reduceIte, Bool.false_eq_true, Bool.true_eq_false]
    exact Ev.now _

theorem PathNet_l0 (n : Nat) (h1 : 1 ≤ n) (h6 : n ≤ 6) : ∀ (d i : Nat) (x : List Int), n - i = d → i ≤ n → x.length = i → ∃ r, Ev (fun k => spec_PathNet.l0 k (n : Int) x (i : Int)) r ∧ r.length = n := by
  intro d
  induction d with
  | zero =>
    intro i x hd hi hx
    refine ⟨x, ?_, by omega⟩
    refine Ev.step (fun k => spec_PathNet.l0.eq_2 ..) ?_
    simp (disch := omega) only [if_pos, if_neg, w64, rdn, rd0, tn, sc, Option.bind_some, ↓reduceIte, Bool.false_eq_true, Bool.true_eq_false]
    refine Ev.step (fun k => spec_PathNet.j1.eq_2 ..) ?_
    simp (disch := omega) only [if_pos, if_neg, w64, rdn, rd0, tn, sc, Option.bind_some, ↓reduceIte, Bool.false_eq_true, Bool.true_eq_false]
    exact Ev.now _
  | succ d ih =>
    intro i x hd hi hx
    have e1 : spec_l1In.f (n : Int) 1 6 = some true := by rw [spec_l1In_eq]; simp; omega
    have hw0 : wrap64 ((i : Int) + 1) = ((i + 1 : Nat) : Int) := by rw [w64 (by omega) (by omega)]; rfl
    have next : ∀ v, ∃ r, Ev (fun k => spec_PathNet.l0 k (n : Int) (x ++ [v]) ((i + 1 : Nat) : Int)) r ∧ r.length = n := fun v => ih (i + 1) _ (by omega) (by omega) (by simp [hx])
    by_cases hi0 : 0 < i
    · have hw : wrap64 ((i : Int) - 1) = ((i - 1 : Nat) : Int) := by rw [w64 (by omega) (by omega)]; omega
      by_cases hn : i + 1 < n
      · obtain ⟨r, hr, hl⟩ := next (Go.bits .or .i64 (Go.bits .or .i64 0 (shl .i64 1 ((i - 1 : Nat) : Int))) (shl .i64 1 ((i + 1 : Nat) : Int)))
        refine ⟨r, ?_, hl⟩
        refine Ev.step (fun k => spec_PathNet.l0.eq_2 ..) ?_
        simp (disch := omega) only [if_pos, if_neg, w64, rdn, rd0, tn, sc, Option.bind_some, ↓reduceIte, Bool.false_eq_true, Bool.true_eq_false]
        simp only [e1, Option.bind_some]
        refine Ev.step (fun k => spec_PathNet.j1.eq_2 ..) ?_
        simp only [hw, hw0]
        simp (disch := omega) only [if_pos, if_neg, w64, rdn, rd0, tn, sc, Option.bind_some, ↓reduceIte, Bool.false_eq_true, Bool.true_eq_false]
        exact hr
      · obtain ⟨r, hr, hl⟩ := next (Go.bits .or .i64 0 (shl .i64 1 ((i - 1 : Nat) : Int)))
        refine ⟨r, ?_, hl⟩
        refine Ev.step (fun k => spec_PathNet.l0.eq_2 ..) ?_
        simp (disch := omega) only [if_pos, if_neg, w64, rdn, rd0, tn, sc, Option.bind_some, ↓reduceIte, Bool.false_eq_true, Bool.true_eq_false]
        simp only [e1, Option.bind_some]
        refine Ev.step (fun k => spec_PathNet.j1.eq_2 ..) ?_
        simp only [hw, hw0]
        simp (disch := omega) only [if_pos, if_neg, w64, rdn, rd0, tn, sc, Option.bind_some, ↓reduceIte, Bool.false_eq_true, Bool.true_eq_false]
        exact hr
    · by_cases hn : i + 1 < n
      · obtain ⟨r, hr, hl⟩ := next (Go.bits .or .i64 0 (shl .i64 1 ((i + 1 : Nat) : Int)))
        refine ⟨r, ?_, hl⟩
        refine Ev.step (fun k => spec_PathNet.l0.eq_2 ..) ?_
        simp (disch := omega) only [if_pos, if_neg, w64, rdn, rd0, tn, sc, Option.bind_some, ↓reduceIte, Bool.false_eq_true, Bool.true_eq_false]
        simp only [e1, Option.bind_some]
        refine Ev.step (fun k => spec_PathNet.j1.eq_2 ..) ?_
        simp only [hw0]
        simp (disch := omega) only [if_pos, if_neg, w64, rdn, rd0, tn, sc, Option.bind_some, ↓reduceIte, Bool.false_eq_true, Bool.true_eq_false]
        exact hr
      · obtain ⟨r, hr, hl⟩ := next 0
        refine ⟨r, ?_, hl⟩
        refine Ev.step (fun k => spec_PathNet.l0.eq_2 ..) ?_
        simp (disch := omega) only [if_pos, if_neg, w64, rdn, rd0, tn, sc, Option.bind_some, ↓reduceIte, Bool.false_eq_true, Bool.true_eq_false]
        simp only [e1, Option.bind_some]
        refine Ev.step (fun k => spec_PathNet.j1.eq_2 ..) ?_
        simp only [hw0]
        simp (disch := omega) only [if_pos, if_neg, w64, rdn, rd0, tn, sc, Option.bind_some, ↓reduceIte, Bool.false_eq_true, Bool.true_eq_false]
        exact hr
theorem PathNet_ev (n : Nat) (h1 : 1 ≤ n) (h6 : n ≤ 6) : ∃ r, Ev (fun k => spec_PathNet.f k (n : Int)) r ∧ r.length = n := by
  unfold spec_PathNet.f
  exact PathNet_l0 n h1 h6 _ 0 [] rfl (by omega) rfl

theorem l20Net_l0 (b : List Int) (hb : RdOk b) (n : Int) (hn : n ≤ 1000000) (nodes : Nat) (h1 : 1 ≤ nodes) (h6 : nodes ≤ 6) : ∀ (d : Nat) (x : List Int) (p : Int), x.length = nodes → 0 ≤ p → p ≤ 10000 - 2 * d →
    ∃ r p', Ev (fun k => spec_l20Net.l0 k n (nodes : Int) x (d : Int) b p) (r, p') ∧ p ≤ p' ∧ p' ≤ p + 2 * d + 2 ∧ r.length ≤ 6 := by
  intro d
  induction d with
  | zero =>
    intro x p hx hp hp2
    obtain ⟨c, p1, hc, hc1, hc2, _⟩ := odd_ev b hb p n hp (by omega) hn
    cases c with
    | false =>
      refine ⟨x, p1, ?_, by omega, by omega, by omega⟩
      refine Ev.step (fun k => spec_l20Net.l0.eq_2 ..) ?_
      simp (disch := omega) only [if_pos, if_neg, w64, rdn, rd0, tn, sc, Option.bind_some, ↓reduceIte, Bool.false_eq_true, Bool.true_eq_false]
      refine Ev.bind hc ?_
      simp (disch := omega) only [if_pos, if_neg, w64, rdn, rd0, tn, sc, Option.bind_some, ↓reduceIte, Bool.false_eq_true, Bool.true_eq_false]
      exact Ev.now _
    | true =>
      obtain ⟨v, hv, hv0, hv1, _⟩ := pick_ev b hb p1 3 (by omega) (by omega) (by omega)
      by_cases e0 : v = 0
      · refine ⟨[], p1 + 1, ?_, by omega, by omega, by simp⟩
        refine Ev.step (fun k => spec_l20Net.l0.eq_2 ..) ?_
        simp (disch := omega) only [if_pos, if_neg, w64, rdn, rd0, tn, sc, Option.bind_some, ↓reduceIte, Bool.false_eq_true, Bool.true_eq_false]
        refine Ev.bind hc ?_
        simp (disch := omega) only [if_pos, if_neg, w64, rdn, rd0, tn, sc, Option.bind_some, ↓reduceIte, Bool.false_eq_true, Bool.true_eq_false]
        refine Ev.bind hv ?_
        simp (disch := omega) only [if_pos, if_neg, w64, rdn, rd0, tn, sc, Option.bind_some, ↓reduceIte, Bool.false_eq_true, Bool.true_eq_false]
        exact Ev.now _
      · by_cases e1 : v = 1
        · refine ⟨x.set 0 (Go.bits .or .i64 (G x 0) 1), p1 + 1, ?_, by omega, by omega, by simp; omega⟩
          refine Ev.step (fun k => spec_l20Net.l0.eq_2 ..) ?_
          simp (disch := omega) only [if_pos, if_neg, w64, rdn, rd0, tn, sc, Option.bind_some, ↓reduceIte, Bool.false_eq_true, Bool.true_eq_false]
          refine Ev.bind hc ?_
          simp (disch := omega) only [if_pos, if_neg, w64, rdn, rd0, tn, sc, Option.bind_some, ↓reduceIte, Bool.false_eq_true, Bool.true_eq_false]
          refine Ev.bind hv ?_
          simp (disch := omega) only [if_pos, if_neg, w64, rdn, rd0, tn, sc, Option.bind_some, ↓reduceIte, Bool.false_eq_true, Bool.true_eq_false]
          exact Ev.now _
        · have hw : wrap64 ((nodes : Int) - 1) = (nodes : Int) - 1 := w64 (by omega) (by omega)
          by_cases e2 : nodes = 1
          · refine ⟨(x.set 0 (Go.bits .xor .i64 (G x 0) (shl .i64 1 ((nodes : Int) - 1)))).set 0 (-1), p1 + 1, ?_, by omega, by omega, by simp; omega⟩
            refine Ev.step (fun k => spec_l20Net.l0.eq_2 ..) ?_
            simp only [hw]
            simp (disch := omega) only [if_pos, if_neg, w64, rdn, rd0, tn, sc, Option.bind_some, ↓reduceIte, Bool.false_eq_true, Bool.true_eq_false]
            refine Ev.bind hc ?_
            simp (disch := omega) only [if_pos, if_neg, w64, rdn, rd0, tn, sc, Option.bind_some, ↓reduceIte, Bool.false_eq_true, Bool.true_eq_false]
            refine Ev.bind hv ?_
            simp (disch := omega) only [if_pos, if_neg, w64, rdn, rd0, tn, sc, Option.bind_some, ↓reduceIte, Bool.false_eq_true, Bool.true_eq_false]
            exact Ev.now _
          · refine ⟨x.set 0 (Go.bits .xor .i64 (G x 0) (shl .i64 1 ((nodes : Int) - 1))), p1 + 1, ?_, by omega, by omega, by simp; omega⟩
            refine Ev.step (fun k => spec_l20Net.l0.eq_2 ..) ?_
            simp only [hw]
            simp (disch := omega) only [if_pos, if_neg, w64, rdn, rd0, tn, sc, Option.bind_some, ↓reduceIte, Bool.false_eq_true, Bool.true_eq_false]
            refine Ev.bind hc ?_
            simp (disch := omega) only [if_pos, if_neg, w64, rdn, rd0, tn, sc, Option.bind_some, ↓reduceIte, Bool.false_eq_true, Bool.true_eq_false]
            refine Ev.bind hv ?_
            simp (disch := omega) only [if_pos, if_neg, w64, rdn, rd0, tn, sc, Option.bind_some, ↓reduceIte, Bool.false_eq_true, Bool.true_eq_false]
            exact Ev.now _
  | succ d ih =>
    intro x p hx hp hp2
    obtain ⟨v, hv, hv0, hv1, _⟩ := pick_ev b hb p (nodes : Int) hp (by omega) (by omega)
    obtain ⟨u, hu, hu0, hu1, _⟩ := pick_ev b hb (p + 1) (nodes : Int) (by omega) (by omega) (by omega)
    have hw : wrap64 (((d + 1 : Nat) : Int) - 1) = (d : Int) := by rw [w64 (by omega) (by omega)]; omega
    obtain ⟨i, rfl⟩ := Int.eq_ofNat_of_zero_le hv0
    obtain ⟨j, rfl⟩ := Int.eq_ofNat_of_zero_le hu0
    by_cases e : i = j
    · obtain ⟨r, p', hr, h2, h3, h4⟩ := ih x (p + 1 + 1) hx (by omega) (by omega)
      refine ⟨r, p', ?_, by omega, by omega, h4⟩
      refine Ev.step (fun k => spec_l20Net.l0.eq_2 ..) ?_
      simp only [hw]
      simp (disch := omega) only [if_pos, if_neg, w64, rdn, rd0, tn, sc, Option.bind_some, ↓reduceIte, Bool.false_eq_true, Bool.true_eq_false]
      refine Ev.bind hv ?_
      refine Ev.bind hu ?_
      simp (disch := omega) only [if_pos, if_neg, w64, rdn, rd0, tn, sc, Option.bind_some, ↓reduceIte, Bool.false_eq_true, Bool.true_eq_false]
      exact hr
    · obtain ⟨r, p', hr, h2, h3, h4⟩ := ih ((x.set i (Go.bits .or .i64 (G x i) (shl .i64 1 (j : Int)))).set j (Go.bits .or .i64 (G (x.set i (Go.bits .or .i64 (G x i) (shl .i64 1 (j : Int)))) j) (shl .i64 1 (i : Int)))) (p + 1 + 1) (by simp [hx]) (by omega) (by omega)
      refine ⟨r, p', ?_, by omega, by omega, h4⟩
      refine Ev.step (fun k => spec_l20Net.l0.eq_2 ..) ?_
      simp only [hw]
      simp (disch := omega) only [if_pos, if_neg, w64, rdn, rd0, tn, sc, Option.bind_some, ↓reduceIte, Bool.false_eq_true, Bool.true_eq_false]
      refine Ev.bind hv ?_
      refine Ev.bind hu ?_
      simp only [List.length_set]
      simp (disch := omega) only [if_pos, if_neg, w64, rdn, rd0, tn, sc, Option.bind_some, ↓reduceIte, Bool.false_eq_true, Bool.true_eq_false]
      exact hr
theorem l20Net_ev (b : List Int) (hb : RdOk b) (n p : Int) (hn : n ≤ 1000000) (hp : 0 ≤ p) (hp2 : p ≤ 9000) :
    ∃ r p', Ev (fun k => spec_l20Net.f k b p n) (r, p') ∧ p ≤ p' ∧ p' ≤ p + 20 ∧ r.length ≤ 6 := by
  obtain ⟨v, hv, hv0, hv1, _⟩ := pick_ev b hb p 6 hp (by omega) (by omega)
  obtain ⟨m, rfl⟩ := Int.eq_ofNat_of_zero_le hv0
  have hw : wrap64 (1 + (m : Int)) = ((1 + m : Nat) : Int) := by rw [w64 (by omega) (by omega)]; omega
  obtain ⟨x, hx, hxl⟩ := PathNet_ev (1 + m) (by omega) (by omega)
  obtain ⟨u, hu, hu0, hu1, _⟩ := pick_ev b hb (p + 1) 4 (by omega) (by omega) (by omega)
  have next : ∀ y : List Int, y.length = 1 + m → ∃ r p', Ev (fun k => spec_l20Net.j0 k n ((1 + m : Nat) : Int) y b (p + 1 + 1)) (r, p') ∧ p ≤ p' ∧ p' ≤ p + 20 ∧ r.length ≤ 6 := by
    intro y hy
    obtain ⟨t, ht, ht0, ht1, _⟩ := pick_ev b hb (p + 1 + 1) 6 (by omega) (by omega) (by omega)
    obtain ⟨q, rfl⟩ := Int.eq_ofNat_of_zero_le ht0
    obtain ⟨r, p', hr, h2, h3, h4⟩ := l20Net_l0 b hb n hn (1 + m) (by omega) (by omega) q y (p + 1 + 1 + 1) hy (by omega) (by omega)
    refine ⟨r, p', ?_, by omega, by omega, h4⟩
    refine Ev.step (fun k => spec_l20Net.j0.eq_2 ..) ?_
    refine Ev.bind ht ?_
    exact hr
  by_cases e0 : u = 0
  · by_cases e3 : 3 ≤ 1 + m
    · obtain ⟨y, hy, hyl⟩ := RingNet_ev (1 + m) e3 (by omega)
      obtain ⟨r, p', hr, h⟩ := next y hyl
      refine ⟨r, p', ?_, h⟩
      unfold spec_l20Net.f
      refine Ev.bind hv ?_
      simp only [hw]
      refine Ev.bind hx ?_
      refine Ev.bind hu ?_
      simp (disch := omega) only [if_pos, if_neg, w64, rdn, rd0, tn, sc, Option.bind_some, ↓reduceIte, Bool.false_eq_true, Bool.true_eq_false]
      refine Ev.bind hy ?_
      exact hr
    · obtain ⟨r, p', hr, h⟩ := next x hxl
      refine ⟨r, p', ?_, h⟩
      unfold spec_l20Net.f
      refine Ev.bind hv ?_
      simp only [hw]
      refine Ev.bind hx ?_
      refine Ev.bind hu ?_
      simp (disch := omega) only [if_pos, if_neg, w64, rdn, rd0, tn, sc, Option.bind_some, ↓reduceIte, Bool.false_eq_true, Bool.true_eq_false]
      exact hr
  · by_cases e1 : u = 1
    · obtain ⟨r, p', hr, h⟩ := next (List.replicate (1 + m) 0) (by simp)
      refine ⟨r, p', ?_, h⟩
      unfold spec_l20Net.f
      refine Ev.bind hv ?_
      simp only [hw]
      refine Ev.bind hx ?_
      refine Ev.bind hu ?_
      simp (disch := omega) only [if_pos, if_neg, w64, rdn, rd0, tn, sc, Option.bind_some, ↓reduceIte, Bool.false_eq_true, Bool.true_eq_false]
      exact hr
    · obtain ⟨r, p', hr, h⟩ := next x hxl
      refine ⟨r, p', ?_, h⟩
      unfold spec_l20Net.f
      refine Ev.bind hv ?_
      simp only [hw]
      refine Ev.bind hx ?_
      refine Ev.bind hu ?_
      simp (disch := omega) only [if_pos, if_neg, w64, rdn, rd0, tn, sc, Option.bind_some, ↓reduceIte, Bool.false_eq_true, Bool.true_eq_false]
      exact hr

theorem l20State_l0 (b : List Int) (hb : RdOk b) (nodes : Nat) (kinds n thin : Int) (h1 : 1 ≤ nodes) (h9 : nodes ≤ 100) (hk : 1 ≤ kinds) (hk' : kinds ≤ 1000) (hn : n ≤ 1000000) :
    ∀ (d : Nat) (i : Nat) (s : List Int) (p : Int), nodes - i = d → i ≤ nodes → s.length = i → (∀ j, 0 ≤ G s j ∧ G s j ≤ kinds) → 0 ≤ p → p ≤ 100000 - 2 * (nodes - i) →
      ∃ r p', Ev (fun k => spec_l20State.l0 k (nodes : Int) kinds n s thin (i : Int) b p) (r, p') ∧ p ≤ p' ∧ p' ≤ p + 2 * (nodes - i) + 2 ∧ (r.length = 0 ∨ r.length = nodes) ∧ (∀ j, 0 ≤ G r j ∧ G r j ≤ kinds) ∧ (n ≤ 0 → r.length = nodes) := by
  intro d
  induction d with
  | zero =>
    intro i s p hd hi hs hj hp hp2
    have hin : i = nodes := by omega
    obtain ⟨c, p1, hc, hc1, hc2, hc3⟩ := odd_ev b hb p n hp (by omega) hn
    cases c with
    | false =>
      refine ⟨s, p1, ?_, by omega, by omega, Or.inr (by omega), hj, fun _ => by omega⟩
      refine Ev.step (fun k => spec_l20State.l0.eq_2 ..) ?_
      simp (disch := omega) only [if_pos, if_neg, w64, rdn, rd0, tn, sc, Option.bind_some, ↓reduceIte, Bool.false_eq_true, Bool.true_eq_false]
      refine Ev.bind hc ?_
      simp (disch := omega) only [if_pos, if_neg, w64, rdn, rd0, tn, sc, Option.bind_some, ↓reduceIte, Bool.false_eq_true, Bool.true_eq_false]
      exact Ev.now _
    | true =>
      obtain ⟨v, hv, _⟩ := pick_ev b hb p1 2 (by omega) (by omega) (by omega)
      by_cases hv0 : v = 0
      · refine ⟨[], p1 + 1, ?_, by omega, by omega, Or.inl rfl, fun j => by simp [G]; omega, fun h => by have := hc3 h; simp at this⟩
        refine Ev.step (fun k => spec_l20State.l0.eq_2 ..) ?_
        simp (disch := omega) only [if_pos, if_neg, w64, rdn, rd0, tn, sc, Option.bind_some, ↓reduceIte, Bool.false_eq_true, Bool.true_eq_false]
        refine Ev.bind hc ?_
        simp (disch := omega) only [if_pos, if_neg, w64, rdn, rd0, tn, sc, Option.bind_some, ↓reduceIte, Bool.false_eq_true, Bool.true_eq_false]
        refine Ev.bind hv ?_
        simp (disch := omega) only [if_pos, if_neg, w64, rdn, rd0, tn, sc, Option.bind_some, ↓reduceIte, Bool.false_eq_true, Bool.true_eq_false]
        exact Ev.now _
      · refine ⟨s.set (nodes - 1) kinds, p1 + 1, ?_, by omega, by omega, Or.inr (by simp; omega), fun j => ?_, fun h => by have := hc3 h; simp at this⟩
        · have hw : wrap64 ((s.length : Int) - 1) = ((nodes - 1 : Nat) : Int) := by rw [w64 (by omega) (by omega)]; omega
          refine Ev.step (fun k => spec_l20State.l0.eq_2 ..) ?_
          simp only [hw]
          simp (disch := omega) only [if_pos, if_neg, w64, rdn, rd0, tn, sc, Option.bind_some, ↓reduceIte, Bool.false_eq_true, Bool.true_eq_false]
          refine Ev.bind hc ?_
          simp (disch := omega) only [if_pos, if_neg, w64, rdn, rd0, tn, sc, Option.bind_some, ↓reduceIte, Bool.false_eq_true, Bool.true_eq_false]
          refine Ev.bind hv ?_
          simp (disch := omega) only [if_pos, if_neg, w64, rdn, rd0, tn, sc, Option.bind_some, ↓reduceIte, Bool.false_eq_true, Bool.true_eq_false]
          exact Ev.now _
        · by_cases e : j = nodes - 1
          · subst e; rw [G_set_self _ (by omega)]; omega
          · rw [G_set_ne _ e]; exact hj j
  | succ d ih =>
    intro i s p hd hi hs hj hp hp2
    have next : ∀ v p1, 0 ≤ v → v ≤ kinds → p ≤ p1 → p1 ≤ p + 2 → ∃ r p', Ev (fun k => spec_l20State.l0 k (nodes : Int) kinds n (s ++ [v]) thin ((i + 1 : Nat) : Int) b p1) (r, p') ∧ p1 ≤ p' ∧ p' ≤ p1 + 2 * (nodes - (i + 1)) + 2 ∧ (r.length = 0 ∨ r.length = nodes) ∧ (∀ j, 0 ≤ G r j ∧ G r j ≤ kinds) ∧ (n ≤ 0 → r.length = nodes) := by
      intro v p1 hv hv' hp1 hp1'
      refine (ih (i + 1) (s ++ [v]) p1 (by omega) (by omega) (by simp [hs]) ?_ (by omega) (by omega))
      intro j
      by_cases e : j < i
      · rw [G_append_left (by omega)]; exact hj j
      · rw [G_append_right (by omega)]
        by_cases e2 : j - s.length = 0
        · rw [e2]; simp [G]; omega
        · rw [G_of_ge (by simp; omega)]; omega
    by_cases ht : thin > 0
    · obtain ⟨v, hv, hv0, hv1, _⟩ := pick_ev b hb p 3 hp (by omega) (by omega)
      by_cases hvt : v < thin
      · obtain ⟨r, p', hr, h2, h3, h4⟩ := next 0 (p + 1) (by omega) (by omega) (by omega) (by omega)
        refine ⟨r, p', ?_, by omega, by omega, h4⟩
        refine Ev.step (fun k => spec_l20State.l0.eq_2 ..) ?_
        simp (disch := omega) only [if_pos, if_neg, w64, rdn, rd0, tn, sc, Option.bind_some, ↓reduceIte, Bool.false_eq_true, Bool.true_eq_false]
        refine Ev.bind hv ?_
        simp (disch := omega) only [if_pos, if_neg, w64, rdn, rd0, tn, sc, Option.bind_some, ↓reduceIte, Bool.false_eq_true, Bool.true_eq_false]
        exact hr
      · obtain ⟨u, hu, hu0, hu1, _⟩ := pick_ev b hb (p + 1) kinds (by omega) (by omega) (by omega)
        obtain ⟨r, p', hr, h2, h3, h4⟩ := next u (p + 1 + 1) hu0 (by omega) (by omega) (by omega)
        refine ⟨r, p', ?_, by omega, by omega, h4⟩
        refine Ev.step (fun k => spec_l20State.l0.eq_2 ..) ?_
        simp (disch := omega) only [if_pos, if_neg, w64, rdn, rd0, tn, sc, Option.bind_some, ↓reduceIte, Bool.false_eq_true, Bool.true_eq_false]
        refine Ev.bind hv ?_
        simp (disch := omega) only [if_pos, if_neg, w64, rdn, rd0, tn, sc, Option.bind_some, ↓reduceIte, Bool.false_eq_true, Bool.true_eq_false]
        refine Ev.bind hu ?_
        simp (disch := omega) only [if_pos, if_neg, w64, rdn, rd0, tn, sc, Option.bind_some, ↓reduceIte, Bool.false_eq_true, Bool.true_eq_false]
        exact hr
    · obtain ⟨u, hu, hu0, hu1, _⟩ := pick_ev b hb p kinds (by omega) (by omega) (by omega)
      obtain ⟨r, p', hr, h2, h3, h4⟩ := next u (p + 1) hu0 (by omega) (by omega) (by omega)
      refine ⟨r, p', ?_, by omega, by omega, h4⟩
      refine Ev.step (fun k => spec_l20State.l0.eq_2 ..) ?_
      simp (disch := omega) only [if_pos, if_neg, w64, rdn, rd0, tn, sc, Option.bind_some, ↓reduceIte, Bool.false_eq_true, Bool.true_eq_false]
      refine Ev.bind hu ?_
      simp (disch := omega) only [if_pos, if_neg, w64, rdn, rd0, tn, sc, Option.bind_some, ↓reduceIte, Bool.false_eq_true, Bool.true_eq_false]
      exact hr
theorem l20State_ev (b : List Int) (hb : RdOk b) (nodes : Nat) (kinds n p : Int) (h1 : 1 ≤ nodes) (h9 : nodes ≤ 100) (hk : 1 ≤ kinds) (hk' : kinds ≤ 1000) (hn : n ≤ 1000000) (hp : 0 ≤ p) (hp2 : p ≤ 10000) :
    ∃ r p', Ev (fun k => spec_l20State.f k b p (nodes : Int) kinds n) (r, p') ∧ p ≤ p' ∧ p' ≤ p + 300 ∧ (r.length = 0 ∨ r.length = nodes) ∧ (∀ j, 0 ≤ G r j ∧ G r j ≤ kinds) ∧ (n ≤ 0 → r.length = nodes) := by
  obtain ⟨v, hv, hv0, hv1, _⟩ := pick_ev b hb p 3 hp (by omega) (by omega)
  obtain ⟨r, p', hr, h2, h3, h4⟩ := l20State_l0 b hb nodes kinds n v h1 h9 hk hk' hn _ 0 [] (p + 1) rfl (by omega) rfl (fun j => by simp [G]; omega) (by omega) (by omega)
  refine ⟨r, p', ?_, by omega, by omega, h4⟩
  unfold spec_l20State.f
  refine Ev.bind hv ?_
  exact hr

theorem l20Turn_ev (b : List Int) (hb : RdOk b) (n p : Int) (hn0 : 0 ≤ n) (hn : n ≤ 1000) (hp : 0 ≤ p) (hp2 : p ≤ 1000) :
    ∃ net s p', Ev (fun k => spec_l20Turn.f k b p n) (net, s, p') ∧ p ≤ p' ∧ p' ≤ p + 400 ∧ net.length ≤ 6 ∧ s.length ≤ 7 := by
  have hw : wrap64 (n * 2) = n * 2 := w64 (by omega) (by omega)
  obtain ⟨net, p1, h1, h1a, h1b, h1c⟩ := l20Net_ev b hb (n * 2) p (by omega) hp (by omega)
  obtain ⟨m, hm, hm1, hm6⟩ : ∃ m : Nat, mx (net.length : Int) 1 = (m : Int) ∧ 1 ≤ m ∧ m ≤ 6 := by
    unfold mx
    by_cases e : (net.length : Int) < 1
    · exact ⟨1, by rw [if_pos e]; rfl, by omega, by omega⟩
    · exact ⟨net.length, by rw [if_neg e], by omega, by omega⟩
  obtain ⟨s, p2, h2, h2a, h2b, h2c, _⟩ := l20State_ev b hb m 3 (n * 2) p1 hm1 (by omega) (by omega) (by omega) (by omega) (by omega) (by omega)
  obtain ⟨c, p3, h3, h3a, h3b, _⟩ := odd_ev b hb p2 (n * 2) (by omega) (by omega) (by omega)
  cases c with
  | true =>
    refine ⟨net, s ++ [0], p3, ?_, by omega, by omega, h1c, by simp; omega⟩
    unfold spec_l20Turn.f
    simp only [hw]
    refine Ev.bind h1 ?_
    simp only [hm]
    refine Ev.bind h2 ?_
    refine Ev.bind h3 ?_
    simp (disch := omega) only [if_pos, if_neg, w64, rdn, rd0, tn, sc, Option.bind_some, ↓reduceIte, Bool.false_eq_true, Bool.true_eq_false]
    exact Ev.now _
  | false =>
    refine ⟨net, s, p3, ?_, by omega, by omega, h1c, by omega⟩
    unfold spec_l20Turn.f
    simp only [hw]
    refine Ev.bind h1 ?_
    simp only [hm]
    refine Ev.bind h2 ?_
    refine Ev.bind h3 ?_
    simp (disch := omega) only [if_pos, if_neg, w64, rdn, rd0, tn, sc, Option.bind_some, ↓reduceIte, Bool.false_eq_true, Bool.true_eq_false]
    exact Ev.now _

theorem DrawTurnStep_ev (l : List Int) (h : ∀ x ∈ l, (Lit.int .u8 x).wf = true) : ∃ net s, Ev (fun k => spec_DrawTurnStep.f k l) (net, s) ∧ net.length ≤ 6 ∧ s.length ≤ 7 := by
  obtain ⟨b, hb, hR⟩ := spec_l20Open_eq l h
  obtain ⟨net, s, p, h1, _, _, h2, h3⟩ := l20Turn_ev b hR 12 0 (by omega) (by omega) (by omega) (by omega)
  refine ⟨net, s, ?_, h2, h3⟩
  unfold spec_DrawTurnStep.f
  rw [hb]
  simp only [Option.bind_some]
  refine Ev.bind h1 ?_
  exact Ev.now _

theorem impl_StateOk_l0 (a : Int) (l : List Int) (hl : l.length ≤ 1048576) : ∀ (d : Nat) (i : Nat), l.length - i = d → i ≤ l.length → (∀ j, j < i → 0 ≤ G l j ∧ G l j < a) → Ev (fun k => impl_StateOk.l0 k a l l (l.length : Int) (i : Int)) (decide (StateP a l)) := by
  intro d
  induction d with
  | zero =>
    intro i hd hi hj
    refine Ev.step (fun k => impl_StateOk.l0.eq_2 ..) ?_
    obtain rfl : i = l.length := by omega
    by_cases h3 : 3 ≤ a
    · by_cases h5 : a ≤ 5
      · by_cases h1 : 1 ≤ l.length
        · simp (disch := omega) only [if_pos, if_neg, w64, rdn, rd0, tn, sc, Option.bind_some, ↓reduceIte, Bool.false_eq_true, Bool.true_eq_false]
          refine Ev.val ?_
          rw [decide_eq_decide]
          unfold StateP
          constructor
          · intro e; exact ⟨h3, h5, h1, by omega, hj⟩
          · intro e; have := e.2.2.2.1; omega
        · simp (disch := omega) only [if_pos, if_neg, w64, rdn, rd0, tn, sc, Option.bind_some, ↓reduceIte, Bool.false_eq_true, Bool.true_eq_false]
          refine Ev.val ?_
          have : ¬ StateP a l := fun p => h1 p.2.2.1
          simp [this]
      · simp (disch := omega) only [if_pos, if_neg, w64, rdn, rd0, tn, sc, Option.bind_some, ↓reduceIte, Bool.false_eq_true, Bool.true_eq_false]
        refine Ev.val ?_
        have : ¬ StateP a l := fun p => h5 p.2.1
        simp [this]
    · simp (disch := omega) only [if_pos, if_neg, w64, rdn, rd0, tn, sc, Option.bind_some, ↓reduceIte, Bool.false_eq_true, Bool.true_eq_false]
      refine Ev.val ?_
      have : ¬ StateP a l := fun p => h3 p.1
      simp [this]
  | succ d ih =>
    intro i hd hi hj
    refine Ev.step (fun k => impl_StateOk.l0.eq_2 ..) ?_
    by_cases e0 : G l i < 0
    · simp (disch := omega) only [if_pos, if_neg, w64, rdn, rd0, tn, sc, Option.bind_some, ↓reduceIte, Bool.false_eq_true, Bool.true_eq_false]
      refine Ev.val ?_
      have : ¬ StateP a l := fun p => by have := p.2.2.2.2 i (by omega); omega
      simp [this]
    · by_cases e1 : G l i ≥ a
      · simp (disch := omega) only [if_pos, if_neg, w64, rdn, rd0, tn, sc, Option.bind_some, ↓reduceIte, Bool.false_eq_true, Bool.true_eq_false]
        refine Ev.val ?_
        have : ¬ StateP a l := fun p => by have := p.2.2.2.2 i (by omega); omega
        simp [this]
      · simp (disch := omega) only [if_pos, if_neg, w64, rdn, rd0, tn, sc, Option.bind_some, ↓reduceIte, Bool.false_eq_true, Bool.true_eq_false]
        refine ih (i + 1) (by omega) (by omega) ?_
        intro j hji
        by_cases e' : j = i
        · subst e'; omega
        · exact hj j (by omega)
theorem impl_StateOk_ev (a : Int) (l : List Int) (hl : l.length ≤ 1048576) : Ev (fun k => impl_StateOk.f k a l) (decide (StateP a l)) := by
  unfold impl_StateOk.f
  exact impl_StateOk_l0 a l hl _ 0 rfl (by omega) (fun j h => by omega)

theorem impl_asked_ev (net s : List Int) (kinds : Int) (hn : net.length ≤ 1048576) (hs : s.length ≤ 1048576) : Ev (fun k => impl_asked.f k net kinds s) (decide (Asked net kinds s)) := by
  unfold impl_asked.f
  refine Ev.bind (impl_NetOk_ev net hn) ?_
  by_cases h1 : NetP net
  · simp only [h1, decide_true]
    simp (disch := omega) only [if_pos, if_neg, w64, rdn, rd0, tn, sc, Option.bind_some, ↓reduceIte, Bool.false_eq_true, Bool.true_eq_false]
    refine Ev.bind (impl_StateOk_ev kinds s hs) ?_
    by_cases h2 : StateP kinds s
    · simp only [h2, decide_true]
      simp (disch := omega) only [if_pos, if_neg, w64, rdn, rd0, tn, sc, Option.bind_some, ↓reduceIte, Bool.false_eq_true, Bool.true_eq_false]
      refine Ev.val ?_
      rw [Bool.eq_iff_iff, beq_iff_eq, decide_eq_true_eq]
      unfold Asked
      constructor
      · intro h; exact ⟨h1, h2, by omega⟩
      · intro h; have := h.2.2; omega
    · simp only [h2, decide_false]
      simp (disch := omega) only [if_pos, if_neg, w64, rdn, rd0, tn, sc, Option.bind_some, ↓reduceIte, Bool.false_eq_true, Bool.true_eq_false]
      have : ¬ Asked net kinds s := fun h => h2 h.2.1
      exact Ev.val (by simp [this])
  · simp only [h1, decide_false]
    simp (disch := omega) only [if_pos, if_neg, w64, rdn, rd0, tn, sc, Option.bind_some, ↓reduceIte, Bool.false_eq_true, Bool.true_eq_false]
    have : ¬ Asked net kinds s := fun h => h1 h.1
    exact Ev.val (by simp [this])

theorem slices_Clone_eq (l : List Int) (h0 : 0 < l.length) (hl : l.length ≤ 1048576) : slices_Clone_int_int.f l = some l := by
  unfold slices_Clone_int_int.f
  have e : ([] : List Int).length = 0 := rfl
  simp only [Option.bind_some, e, List.nil_append]
  simp (disch := omega) only [if_pos, if_neg, w64, rdn, rd0, tn, sc, Option.bind_some, ↓reduceIte, Bool.false_eq_true, Bool.true_eq_false]

-- needs Turn
theorem impl_turnStep_l1 (net s : List Int) (h : Asked net 3 s) (i : Nat) (hi : i < s.length) (r : List Int)
    (hend : ∀ x : List Int, x.length = s.length → (∀ p, p < s.length → G x p = if p < i + 1 ∧ Goes net s p then (G s p + 1) % 3 else G s p) → Ev (fun k => impl_turnStep.l0 k net s x s (s.length : Int) ((i + 1 : Nat) : Int)) r) :
    ∀ (d j : Nat) (x : List Int), s.length - j = d → j ≤ s.length → x.length = s.length → (∀ p, p < s.length → p ≠ i → G x p = if p < i ∧ Goes net s p then (G s p + 1) % 3 else G s p) →
      G x i = (if GoesTo net s i j then (G s i + 1) % 3 else G s i) →
      Ev (fun k => impl_turnStep.l1 k net s x (i : Int) (G s i) s (s.length : Int) (i : Int) s (s.length : Int) (j : Int)) r := by
  intro d
  have h6 := asked6 h
  have hl := h.2.2
  induction d with
  | zero =>
    intro j x hd hj hx hp hi'
    refine Ev.step (fun k => impl_turnStep.l1.eq_2 ..) ?_
    simp (disch := omega) only [if_pos, if_neg, w64, rdn, rd0, tn, sc, Option.bind_some, ↓reduceIte, Bool.false_eq_true, Bool.true_eq_false]
    refine hend x hx (fun p hpl => ?_)
    by_cases e : p = i
    · subst e
      rw [hi', show j = s.length from by omega]
      by_cases g : Goes net s p
      · rw [if_pos (goesTo_all.2 g), if_pos ⟨by omega, g⟩]
      · rw [if_neg (fun hh => g (goesTo_all.1 hh)), if_neg (fun hh => g hh.2)]
    · rw [hp p hpl e]
      by_cases e2 : p < i
      · have : p < i + 1 := by omega
        simp only [e2, this]
      · have : ¬ p < i + 1 := by omega
        simp only [e2, this]
  | succ d ih =>
    intro j x hd hj hx hp hi'
    refine Ev.step (fun k => impl_turnStep.l1.eq_2 ..) ?_
    have hb := bit_and (G net i) (j := j) (by omega)
    have hbd := h.2.1.2.2.2.2 i (by omega)
    have e1 : Int.tmod (wrap64 (G s i + 1)) 3 = (G s i + 1) % 3 := by rw [w64 (by omega) (by omega), tmod_nn (by omega)]
    simp only [rdn, hb, e1]
    clear hb e1
    by_cases e1 : G net i / 2 ^ j % 2 = 1
    · by_cases e2 : G s j = (G s i + 1) % 3
      · simp (disch := omega) only [if_pos, if_neg, w64, rdn, rd0, tn, sc, Option.bind_some, ↓reduceIte, Bool.false_eq_true, Bool.true_eq_false]
        refine ih (j + 1) _ (by omega) (by omega) (by simp [hx]) ?_ ?_
        · intro p hpl hpi
          rw [G_set_ne _ hpi]; exact hp p hpl hpi
        · rw [G_set_self _ (by omega), if_pos (goesTo_succ.2 (Or.inr ⟨e1, e2⟩)), e2]
      · have e3 : GoesTo net s i (j + 1) ↔ GoesTo net s i j := by rw [goesTo_succ]; simp [e2]
        simp (disch := omega) only [if_pos, if_neg, w64, rdn, rd0, tn, sc, Option.bind_some, ↓reduceIte, Bool.false_eq_true, Bool.true_eq_false]
        refine ih (j + 1) _ (by omega) (by omega) hx hp ?_
        rw [hi']; simp only [e3]
    · have e3 : GoesTo net s i (j + 1) ↔ GoesTo net s i j := by rw [goesTo_succ]; simp [adj, e1]
      simp (disch := omega) only [if_pos, if_neg, w64, rdn, rd0, tn, sc, Option.bind_some, ↓reduceIte, Bool.false_eq_true, Bool.true_eq_false]
      refine ih (j + 1) _ (by omega) (by omega) hx hp ?_
      rw [hi']; simp only [e3]
theorem impl_turnStep_l0 (net s : List Int) (h : Asked net 3 s) : ∀ (d i : Nat) (x : List Int), s.length - i = d → i ≤ s.length → x.length = s.length →
    (∀ p, p < s.length → G x p = if p < i ∧ Goes net s p then (G s p + 1) % 3 else G s p) →
    Ev (fun k => impl_turnStep.l0 k net s x s (s.length : Int) (i : Int)) (turn net s) := by
  intro d
  have h6 := asked6 h
  induction d with
  | zero =>
    intro i x hd hi hx hp
    refine Ev.step (fun k => impl_turnStep.l0.eq_2 ..) ?_
    have : i = s.length := by omega
    simp (disch := omega) only [if_pos, if_neg, w64, rdn, rd0, tn, sc, Option.bind_some, ↓reduceIte, Bool.false_eq_true, Bool.true_eq_false]
    refine Ev.val (mk_eq_iff.2 ⟨hx, fun p hpl => ?_⟩)
    rw [hp p hpl]
    have : p < i := by omega
    simp only [this, true_and]
  | succ d ih =>
    intro i x hd hi hx hp
    refine Ev.step (fun k => impl_turnStep.l0.eq_2 ..) ?_
    simp (disch := omega) only [if_pos, if_neg, w64, rdn, rd0, tn, sc, Option.bind_some, ↓reduceIte, Bool.false_eq_true, Bool.true_eq_false]
    refine impl_turnStep_l1 net s h i (by omega) _ (fun y hy hq => ih (i + 1) y (by omega) (by omega) hy hq) _ 0 x rfl (by omega) hx (fun p hpl _ => hp p hpl) ?_
    rw [hp i (by omega), if_neg (by omega), if_neg goesTo_zero]
theorem impl_turnStep_ev (net s : List Int) (h : Asked net 3 s) : Ev (fun k => impl_turnStep.f k net s) (turn net s) := by
  unfold impl_turnStep.f
  have h6 := asked6 h
  have h1 := asked1 h
  rw [slices_Clone_eq s (by omega) (by omega)]
  simp only [Option.bind_some]
  exact impl_turnStep_l0 net s h _ 0 s rfl (by omega) rfl (fun p _ => by rw [if_neg (by omega)])

theorem impl_TurnStep_ev (net s : List Int) (hn : net.length ≤ 1048576) (hs : s.length ≤ 1048576) : Ev (fun k => impl_TurnStep.f k net s) (turnStep net s) := by
  unfold impl_TurnStep.f
  refine Ev.bind (impl_asked_ev net s 3 hn hs) ?_
  by_cases h : Asked net 3 s
  · simp only [h, decide_true]
    simp (disch := omega) only [if_pos, if_neg, w64, rdn, rd0, tn, sc, Option.bind_some, ↓reduceIte, Bool.false_eq_true, Bool.true_eq_false]
    refine Ev.bind (impl_turnStep_ev net s h) ?_
    exact Ev.val (turnStep_yes h).symm
  · simp only [h, decide_false]
    simp (disch := omega) only [if_pos, if_neg, w64, rdn, rd0, tn, sc, Option.bind_some, ↓reduceIte, Bool.false_eq_true, Bool.true_eq_false]
    exact Ev.val (turnStep_no h).symm

theorem spec_NetOk_l2 (l : List Int) (h6 : l.length ≤ 6) (hr : ∀ j, j < l.length → 0 ≤ G l j ∧ G l j < 2 ^ l.length) (i : Nat) (hi : i < l.length) (r : Bool)
    (hbad : ∀ k, k < l.length → ¬ ((adj l i k ↔ adj l k i) ∧ ¬ (k = i ∧ adj l i i)) → r = false)
    (hgood : (∀ k, k < l.length → (adj l i k ↔ adj l k i)) → ¬ adj l i i → Ev (fun k => spec_NetOk.l1 k l ((i + 1 : Nat) : Int)) r) :
    ∀ (d : Nat) (j : Nat), l.length - j = d → j ≤ l.length → (∀ k, k < j → (adj l i k ↔ adj l k i) ∧ ¬ (k = i ∧ adj l i i)) →
      Ev (fun k => spec_NetOk.l2 k l (i : Int) (j : Int)) r := by
  intro d
  induction d with
  | zero =>
    intro j hd hj hk
    refine Ev.step (fun k => spec_NetOk.l2.eq_2 ..) ?_
    simp (disch := omega) only [if_pos, if_neg, w64, rdn, rd0, tn, sc, Option.bind_some, ↓reduceIte, Bool.false_eq_true, Bool.true_eq_false]
    exact hgood (fun k hkl => (hk k (by omega)).1) (fun h => (hk i (by omega)).2 ⟨rfl, h⟩)
  | succ d ih =>
    intro j hd hj hk
    refine Ev.step (fun k => spec_NetOk.l2.eq_2 ..) ?_
    have b1 := bit_mod (G l i) (j := j) (by omega) (hr i hi).1
    have b2 := bit_mod (G l j) (j := i) (by omega) (hr j (by omega)).1
    have m1 := Int.emod_two_eq (G l i / 2 ^ j)
    have m2 := Int.emod_two_eq (G l j / 2 ^ i)
    by_cases e : adj l i j ↔ adj l j i
    · have e' : G l i / 2 ^ j % 2 = G l j / 2 ^ i % 2 := by
        unfold adj at e
        by_cases c : G l i / 2 ^ j % 2 = 1
        · rw [c, e.1 c]
        · have c2 := fun h => c (e.2 h)
          omega
      simp only [rdn, b1, b2]
      by_cases eji : j = i
      · by_cases ea : G l i / 2 ^ j % 2 = 1
        · simp (disch := omega) only [if_pos, if_neg, w64, rdn, rd0, tn, sc, Option.bind_some, ↓reduceIte, Bool.false_eq_true, Bool.true_eq_false]
          refine Ev.val (hbad j (by omega) (fun h => h.2 ⟨eji, ?_⟩)).symm
          rw [eji] at ea; exact ea
        · simp (disch := omega) only [if_pos, if_neg, w64, rdn, rd0, tn, sc, Option.bind_some, ↓reduceIte, Bool.false_eq_true, Bool.true_eq_false]
          refine ih _ (by omega) (by omega) ?_
          intro k hkj
          by_cases e'' : k = j
          · subst e''; refine ⟨e, fun h => ea ?_⟩; have := h.2; rw [eji]; exact this
          · exact hk k (by omega)
      · simp (disch := omega) only [if_pos, if_neg, w64, rdn, rd0, tn, sc, Option.bind_some, ↓reduceIte, Bool.false_eq_true, Bool.true_eq_false]
        refine ih _ (by omega) (by omega) ?_
        intro k hkj
        by_cases e'' : k = j
        · subst e''; exact ⟨e, fun h => eji h.1⟩
        · exact hk k (by omega)
    · have e' : ¬ G l i / 2 ^ j % 2 = G l j / 2 ^ i % 2 := by
        intro h
        apply e
        unfold adj
        rw [h]
      simp only [rdn, b1, b2]
      simp (disch := omega) only [if_pos, if_neg, w64, rdn, rd0, tn, sc, Option.bind_some, ↓reduceIte, Bool.false_eq_true, Bool.true_eq_false]
      exact Ev.val (hbad j (by omega) (fun h => e h.1)).symm
theorem spec_NetOk_l1 (l : List Int) (h1 : 1 ≤ l.length) (h6 : l.length ≤ 6) (hr : ∀ j, j < l.length → 0 ≤ G l j ∧ G l j < 2 ^ l.length) : ∀ (d : Nat) (i : Nat), l.length - i = d → i ≤ l.length →
    (∀ j, j < i → (¬ adj l j j ∧ ∀ k, k < l.length → (adj l j k ↔ adj l k j))) → Ev (fun k => spec_NetOk.l1 k l (i : Int)) (decide (NetP l)) := by
  intro d
  induction d with
  | zero =>
    intro i hd hi hj
    refine Ev.step (fun k => spec_NetOk.l1.eq_2 ..) ?_
    simp (disch := omega) only [if_pos, if_neg, w64, rdn, rd0, tn, sc, Option.bind_some, ↓reduceIte, Bool.false_eq_true, Bool.true_eq_false]
    have : NetP l := ⟨h1, h6, fun j h => ⟨(hr j h).1, (hr j h).2, (hj j (by omega)).1, (hj j (by omega)).2⟩⟩
    exact Ev.val (by simp [this])
  | succ d ih =>
    intro i hd hi hj
    refine Ev.step (fun k => spec_NetOk.l1.eq_2 ..) ?_
    simp (disch := omega) only [if_pos, if_neg, w64, rdn, rd0, tn, sc, Option.bind_some, ↓reduceIte, Bool.false_eq_true, Bool.true_eq_false]
    refine spec_NetOk_l2 l h6 hr i (by omega) _ ?_ ?_ _ 0 rfl (by omega) (fun k h => by omega)
    · intro k hk hn
      have : ¬ NetP l := fun p => hn ⟨(p.2.2 i (by omega)).2.2.2 k hk, fun h => (p.2.2 i (by omega)).2.2.1 h.2⟩
      simp [this]
    · intro hall hirr
      refine ih _ (by omega) (by omega) ?_
      intro j hji
      by_cases e' : j = i
      · subst e'; exact ⟨hirr, hall⟩
      · exact hj j (by omega)
theorem spec_NetOk_l0 (l : List Int) (h1 : 1 ≤ l.length) (h6 : l.length ≤ 6) : ∀ (d : Nat) (i : Nat), l.length - i = d → i ≤ l.length →
    (∀ j, j < i → 0 ≤ G l j ∧ G l j < 2 ^ l.length) → Ev (fun k => spec_NetOk.l0 k l (i : Int)) (decide (NetP l)) := by
  intro d
  induction d with
  | zero =>
    intro i hd hi hj
    refine Ev.step (fun k => spec_NetOk.l0.eq_2 ..) ?_
    simp (disch := omega) only [if_pos, if_neg, w64, rdn, rd0, tn, sc, Option.bind_some, ↓reduceIte, Bool.false_eq_true, Bool.true_eq_false]
    exact spec_NetOk_l1 l h1 h6 (fun j h => hj j (by omega)) _ 0 rfl (by omega) (fun j h => by omega)
  | succ d ih =>
    intro i hd hi hj
    refine Ev.step (fun k => spec_NetOk.l0.eq_2 ..) ?_
    have hs := shl1 (n := l.length) (by omega)
    have hp := pow_lt63 (n := l.length) (by omega)
    have hq := pow_pos2 l.length
    have hw : wrap64 ((2 : Int) ^ l.length - 1) = 2 ^ l.length - 1 := w64 (by omega) (by omega)
    simp only [rdn, hs, hw, spec_l1In_eq, Option.bind_some]
    by_cases e : 0 ≤ G l i ∧ G l i ≤ 2 ^ l.length - 1
    · simp only [e, and_self, decide_true]
      simp (disch := omega) only [if_pos, if_neg, w64, rdn, rd0, tn, sc, Option.bind_some, ↓reduceIte, Bool.false_eq_true, Bool.true_eq_false]
      refine ih _ (by omega) (by omega) ?_
      intro j hji
      by_cases e' : j = i
      · subst e'; omega
      · exact hj j (by omega)
    · simp only [e, decide_false]
      simp (disch := omega) only [if_pos, if_neg, w64, rdn, rd0, tn, sc, Option.bind_some, ↓reduceIte, Bool.false_eq_true, Bool.true_eq_false]
      have : ¬ NetP l := fun p => e ⟨(p.2.2 i (by omega)).1, by have := (p.2.2 i (by omega)).2.1; omega⟩
      exact Ev.val (by simp [this])
theorem spec_NetOk_ev (l : List Int) (hl : l.length ≤ 1048576) : Ev (fun k => spec_NetOk.f k l) (decide (NetP l)) := by
  unfold spec_NetOk.f
  simp only [spec_l1In_eq, Option.bind_some]
  by_cases h : 1 ≤ l.length ∧ l.length ≤ 6
  · have h' : (1 : Int) ≤ (l.length : Int) ∧ (l.length : Int) ≤ 6 := by omega
    simp only [h', and_self, decide_true]
    simp (disch := omega) only [if_pos, if_neg, w64, rdn, rd0, tn, sc, Option.bind_some, ↓reduceIte, Bool.false_eq_true, Bool.true_eq_false]
    exact spec_NetOk_l0 l h.1 h.2 _ 0 rfl (by omega) (fun j h => by omega)
  · have h' : ¬ ((1 : Int) ≤ (l.length : Int) ∧ (l.length : Int) ≤ 6) := by omega
    simp only [h', decide_false]
    simp (disch := omega) only [if_pos, if_neg, w64, rdn, rd0, tn, sc, Option.bind_some, ↓reduceIte, Bool.false_eq_true, Bool.true_eq_false]
    have : ¬ NetP l := fun p => h ⟨p.1, p.2.1⟩
    exact Ev.val (by simp [this])

theorem spec_StateOk_l0 (a : Int) (l : List Int) (hl : l.length ≤ 1048576) : ∀ (d : Nat) (i : Nat), l.length - i = d → i ≤ l.length → (∀ j, j < i → 0 ≤ G l j ∧ G l j < a) → Ev (fun k => spec_StateOk.l0 k a l (i : Int)) (decide (StateP a l)) := by
  intro d
  induction d with
  | zero =>
    intro i hd hi hj
    refine Ev.step (fun k => spec_StateOk.l0.eq_2 ..) ?_
    simp only [spec_l1In_eq, Option.bind_some]
    obtain rfl : i = l.length := by omega
    by_cases h : 3 ≤ a ∧ a ≤ 5
    · simp only [h, and_self, decide_true]
      simp (disch := omega) only [if_pos, if_neg, w64, rdn, rd0, tn, sc, Option.bind_some, ↓reduceIte, Bool.false_eq_true, Bool.true_eq_false]
      refine Ev.val ?_
      rw [decide_eq_decide]
      unfold StateP
      constructor
      · intro e; exact ⟨h.1, h.2, by omega, by omega, hj⟩
      · intro e; have := e.2.2.1; have := e.2.2.2.1; omega
    · simp only [h, decide_false]
      simp (disch := omega) only [if_pos, if_neg, w64, rdn, rd0, tn, sc, Option.bind_some, ↓reduceIte, Bool.false_eq_true, Bool.true_eq_false]
      refine Ev.val ?_
      have : ¬ StateP a l := fun p => h ⟨p.1, p.2.1⟩
      simp [this]
  | succ d ih =>
    intro i hd hi hj
    refine Ev.step (fun k => spec_StateOk.l0.eq_2 ..) ?_
    by_cases e0 : G l i < 0
    · simp (disch := omega) only [if_pos, if_neg, w64, rdn, rd0, tn, sc, Option.bind_some, ↓reduceIte, Bool.false_eq_true, Bool.true_eq_false]
      refine Ev.val ?_
      have : ¬ StateP a l := fun p => by have := p.2.2.2.2 i (by omega); omega
      simp [this]
    · by_cases e1 : G l i ≥ a
      · simp (disch := omega) only [if_pos, if_neg, w64, rdn, rd0, tn, sc, Option.bind_some, ↓reduceIte, Bool.false_eq_true, Bool.true_eq_false]
        refine Ev.val ?_
        have : ¬ StateP a l := fun p => by have := p.2.2.2.2 i (by omega); omega
        simp [this]
      · simp (disch := omega) only [if_pos, if_neg, w64, rdn, rd0, tn, sc, Option.bind_some, ↓reduceIte, Bool.false_eq_true, Bool.true_eq_false]
        refine ih (i + 1) (by omega) (by omega) ?_
        intro j hji
        by_cases e' : j = i
        · subst e'; omega
        · exact hj j (by omega)
theorem spec_StateOk_ev (a : Int) (l : List Int) (hl : l.length ≤ 1048576) : Ev (fun k => spec_StateOk.f k a l) (decide (StateP a l)) := by
  unfold spec_StateOk.f
  exact spec_StateOk_l0 a l hl _ 0 rfl (by omega) (fun j h => by omega)

theorem spec_l3Ok_ev (net s : List Int) (kinds : Int) (hn : net.length ≤ 1048576) (hs : s.length ≤ 1048576) : Ev (fun k => spec_l3Ok.f k net kinds s) (decide (Asked net kinds s)) := by
  unfold spec_l3Ok.f
  refine Ev.bind (spec_NetOk_ev net hn) ?_
  by_cases h1 : NetP net
  · simp only [h1, decide_true]
    simp (disch := omega) only [if_pos, if_neg, w64, rdn, rd0, tn, sc, Option.bind_some, ↓reduceIte, Bool.false_eq_true, Bool.true_eq_false]
    refine Ev.bind (spec_StateOk_ev kinds s hs) ?_
    by_cases h2 : StateP kinds s
    · simp only [h2, decide_true]
      simp (disch := omega) only [if_pos, if_neg, w64, rdn, rd0, tn, sc, Option.bind_some, ↓reduceIte, Bool.false_eq_true, Bool.true_eq_false]
      refine Ev.val ?_
      rw [Bool.eq_iff_iff, beq_iff_eq, decide_eq_true_eq]
      unfold Asked
      constructor
      · intro h; exact ⟨h1, h2, by omega⟩
      · intro h; have := h.2.2; omega
    · simp only [h2, decide_false]
      simp (disch := omega) only [if_pos, if_neg, w64, rdn, rd0, tn, sc, Option.bind_some, ↓reduceIte, Bool.false_eq_true, Bool.true_eq_false]
      have : ¬ Asked net kinds s := fun h => h2 h.2.1
      exact Ev.val (by simp [this])
  · simp only [h1, decide_false]
    simp (disch := omega) only [if_pos, if_neg, w64, rdn, rd0, tn, sc, Option.bind_some, ↓reduceIte, Bool.false_eq_true, Bool.true_eq_false]
    have : ¬ Asked net kinds s := fun h => h1 h.1
    exact Ev.val (by simp [this])

-- needs Turn
theorem spec_l5Step_l1 (net s x : List Int) (h : Asked net 3 s) (i : Nat) (hi : i < s.length) (r : List Int) (hx : x.length = i)
    (hend : Ev (fun k => spec_l5Step.l0 k net s (x ++ [if Goes net s i then (G s i + 1) % 3 else G s i]) ((i + 1 : Nat) : Int)) r) :
    ∀ (d j : Nat), s.length - j = d → j ≤ s.length →
      Ev (fun k => spec_l5Step.l1 k net s x (i : Int) ((G s i + 1) % 3) (if GoesTo net s i j then (G s i + 1) % 3 else G s i) (j : Int)) r := by
  intro d
  have h6 := asked6 h
  have hl := h.2.2
  induction d with
  | zero =>
    intro j hd hj
    refine Ev.step (fun k => spec_l5Step.l1.eq_2 ..) ?_
    have e : (GoesTo net s i j) = (Goes net s i) := by unfold GoesTo Goes; rw [show j = s.length from by omega]
    simp only [e]
    simp (disch := omega) only [if_pos, if_neg, w64, rdn, rd0, tn, sc, Option.bind_some, ↓reduceIte, Bool.false_eq_true, Bool.true_eq_false]
    exact hend
  | succ d ih =>
    intro j hd hj
    refine Ev.step (fun k => spec_l5Step.l1.eq_2 ..) ?_
    have hb := bit_mod (G net i) (j := j) (by omega) (h.1.2.2 i (by omega)).1
    have hn := ih (j + 1) (by omega) (by omega)
    simp only [rdn, hb]
    clear hb
    by_cases e1 : G net i / 2 ^ j % 2 = 1
    · by_cases e2 : G s j = (G s i + 1) % 3
      · rw [if_pos (goesTo_succ.2 (Or.inr ⟨e1, e2⟩))] at hn
        simp (disch := omega) only [if_pos, if_neg, w64, rdn, rd0, tn, sc, Option.bind_some, ↓reduceIte, Bool.false_eq_true, Bool.true_eq_false]
        exact hn
      · have e3 : GoesTo net s i (j + 1) ↔ GoesTo net s i j := by rw [goesTo_succ]; simp [e2]
        simp only [e3] at hn
        simp (disch := omega) only [if_pos, if_neg, w64, rdn, rd0, tn, sc, Option.bind_some, ↓reduceIte, Bool.false_eq_true, Bool.true_eq_false]
        exact hn
    · have e3 : GoesTo net s i (j + 1) ↔ GoesTo net s i j := by rw [goesTo_succ]; simp [adj, e1]
      simp only [e3] at hn
      simp (disch := omega) only [if_pos, if_neg, w64, rdn, rd0, tn, sc, Option.bind_some, ↓reduceIte, Bool.false_eq_true, Bool.true_eq_false]
      exact hn
theorem spec_l5Step_l0 (net s : List Int) (h : Asked net 3 s) : ∀ (d i : Nat), s.length - i = d → i ≤ s.length →
    Ev (fun k => spec_l5Step.l0 k net s (mk i (fun i => if Goes net s i then (G s i + 1) % 3 else G s i)) (i : Int)) (turn net s) := by
  intro d
  have h6 := asked6 h
  induction d with
  | zero =>
    intro i hd hi
    refine Ev.step (fun k => spec_l5Step.l0.eq_2 ..) ?_
    have : i = s.length := by omega
    simp (disch := omega) only [if_pos, if_neg, w64, rdn, rd0, tn, sc, Option.bind_some, ↓reduceIte, Bool.false_eq_true, Bool.true_eq_false]
    exact Ev.val (by rw [this]; rfl)
  | succ d ih =>
    intro i hd hi
    refine Ev.step (fun k => spec_l5Step.l0.eq_2 ..) ?_
    have hn := ih (i + 1) (by omega) (by omega)
    rw [mk_succ] at hn
    have hb := h.2.1.2.2.2.2 i (by omega)
    have e1 : Int.tmod (wrap64 (G s i + 1)) 3 = (G s i + 1) % 3 := by rw [w64 (by omega) (by omega), tmod_nn (by omega)]
    simp only [rdn, e1]
    clear e1
    simp (disch := omega) only [if_pos, if_neg, w64, rdn, rd0, tn, sc, Option.bind_some, ↓reduceIte, Bool.false_eq_true, Bool.true_eq_false]
    have e0 : ¬ GoesTo net s i 0 := goesTo_zero
    have h1 := spec_l5Step_l1 net s _ h i (by omega) _ (mk_length _ _) hn _ 0 rfl (by omega)
    rw [if_neg e0] at h1
    exact h1
theorem spec_l5Step_ev (net s : List Int) (h : Asked net 3 s) : Ev (fun k => spec_l5Step.f k net s) (turn net s) := by
  unfold spec_l5Step.f
  exact spec_l5Step_l0 net s h _ 0 rfl (by omega)

theorem spec_TurnStep_ev (net s : List Int) (hn : net.length ≤ 1048576) (hs : s.length ≤ 1048576) : Ev (fun k => spec_TurnStep.f k net s) (turnStep net s) := by
  unfold spec_TurnStep.f
  refine Ev.bind (spec_l3Ok_ev net s 3 hn hs) ?_
  by_cases h : Asked net 3 s
  · simp only [h, decide_true]
    simp (disch := omega) only [if_pos, if_neg, w64, rdn, rd0, tn, sc, Option.bind_some, ↓reduceIte, Bool.false_eq_true, Bool.true_eq_false]
    refine Ev.bind (spec_l5Step_ev net s h) ?_
    exact Ev.val (turnStep_yes h).symm
  · simp only [h, decide_false]
    simp (disch := omega) only [if_pos, if_neg, w64, rdn, rd0, tn, sc, Option.bind_some, ↓reduceIte, Bool.false_eq_true, Bool.true_eq_false]
    exact Ev.val (turnStep_no h).symm

theorem l20Order_len (x : List Int) (i q : Nat) (e : Int) (hx : x.length = i) (hq : q ≤ i) : (x.take q).length = q ∧ (([] : List Int) ++ x.take q).length = q ∧ (([] : List Int) ++ x.take q ++ [e]).length = q + 1 ∧ (x.drop q).length = i - q ∧ (([] : List Int) ++ x.take q ++ [e] ++ x.drop q).length = i + 1 := by
  have h1 : (x.take q).length = q := by rw [List.length_take]; omega
  have h2 : (([] : List Int) ++ x.take q).length = q := by rw [List.nil_append]; exact h1
  have h3 : (([] : List Int) ++ x.take q ++ [e]).length = q + 1 := by rw [List.length_append, h2]; rfl
  have h4 : (x.drop q).length = i - q := by rw [List.length_drop, hx]
  exact ⟨h1, h2, h3, h4, by rw [List.length_append, h3, h4]; omega⟩
theorem l20Order_num (i q : Nat) (h : i ≤ 6) (hq : q ≤ i) : 0 + q < 17592186044416 ∧ q < 17592186044416 ∧ q + 1 + (i - q) < 17592186044416 := by omega
theorem l20Order_l0 (b : List Int) (hb : RdOk b) (n : Nat) (h6 : n ≤ 6) (c : Int) (hc : c ≤ 1000000) : ∀ (d i : Nat) (x : List Int) (p : Int), i + d = n → x.length = i → 0 ≤ p → p + d ≤ 10000 →
    ∃ r p', Ev (fun k => spec_l20Order.l0 k (n : Int) c x (i : Int) b p) (r, p') ∧ r.length ≤ 7 := by
  intro d
  induction d with
  | zero =>
    intro i x p hd hx hp hp2
    obtain rfl : i = n := by omega
    obtain ⟨v, p2, hv, _⟩ := odd_ev b hb p c hp (by omega) hc
    have e0 : ¬ ((i : Int) < (i : Int)) := by omega
    cases v with
    | true =>
      refine ⟨x ++ [0], p2, ?_, by rw [List.length_append]; show x.length + 1 ≤ 7; omega⟩
      refine Ev.step (fun k => spec_l20Order.l0.eq_2 ..) ?_
      simp only [e0, if_false]
      refine Ev.bind hv ?_
      have c1 : x.length < 17592186044416 := by omega
      simp only [if_true, c1]
      exact Ev.now _
    | false =>
      refine ⟨x, p2, ?_, by omega⟩
      refine Ev.step (fun k => spec_l20Order.l0.eq_2 ..) ?_
      simp only [e0, if_false]
      refine Ev.bind hv ?_
      simp only [Bool.false_eq_true, if_false]
      exact Ev.now _
  | succ d ih =>
    intro i x p hd hx hp hp2
    obtain ⟨v, hv, hv0, hv1, _⟩ := pick_ev b hb p ((x.length : Int) + 1) hp (by omega) (by omega)
    have hv2 := hv1 (by omega)
    obtain ⟨q, rfl⟩ := Int.eq_ofNat_of_zero_le hv0
    have c1 : (i : Int) < (n : Int) := by omega
    have hw1 : wrap64 ((x.length : Int) + 1) = (x.length : Int) + 1 := w64 (by omega) (by omega)
    have hw : wrap64 ((i : Int) + 1) = ((i + 1 : Nat) : Int) := w64 (by omega) (by omega)
    have c2 : (q : Int) ≤ (x.length : Int) := by omega
    have c6 : 0 ≤ (q : Int) := by omega
    have hqi : q ≤ i := by omega
    have hi6 : i ≤ 6 := by omega
    have g1 : (i + 1) + d = n := by omega
    have g2 : 0 ≤ p + 1 := by omega
    have g3 : p + 1 + (d : Int) ≤ 10000 := by omega
    have e0 : ([] : List Int).length = 0 := rfl
    obtain ⟨l1, l2, l3, l4, l5⟩ := l20Order_len x i q (i : Int) hx hqi
    obtain ⟨c3, c4, c5⟩ := l20Order_num i q hi6 hqi
    obtain ⟨r, p', hr, hr7⟩ := ih (i + 1) (([] : List Int) ++ x.take q ++ [(i : Int)] ++ x.drop q) (p + 1) g1 l5 g2 g3
    refine ⟨r, p', ?_, hr7⟩
    refine Ev.step (fun k => spec_l20Order.l0.eq_2 ..) ?_
    simp only [c1, if_true, hw1]
    refine Ev.bind hv ?_
    simp only [Option.bind_some, c6, c2, if_true, tn, e0, l1, c3, l2, c4, l3, l4, c5, hw]
    exact hr

theorem DrawNamedNet_ev (l : List Int) (h : ∀ x ∈ l, (Lit.int .u8 x).wf = true) : ∃ net o, Ev (fun k => spec_DrawNamedNet.f k l) (net, o) ∧ net.length ≤ 6 ∧ o.length ≤ 7 := by
  obtain ⟨b, hb, hR⟩ := spec_l20Open_eq l h
  obtain ⟨net, p, h1, hp1, hp2, h2⟩ := l20Net_ev b hR 14 0 (by omega) (by omega) (by omega)
  obtain ⟨o, p', ho, ho7⟩ := l20Order_l0 b hR net.length h2 14 (by omega) net.length 0 [] p (by omega) rfl (by omega) (by omega)
  refine ⟨net, o, ?_, h2, ho7⟩
  unfold spec_DrawNamedNet.f spec_l20Order.f
  rw [hb]
  simp only [Option.bind_some]
  refine Ev.bind h1 ?_
  refine Ev.bind ho ?_
  exact Ev.now _

theorem slices_Index_l0 (l : List Int) (a : Int) (hl : l.length ≤ 1048576) : ∀ (d i : Nat), i + d = l.length → (∀ j, j < i → G l j ≠ a) →
    ∃ r, Ev (fun k => slices_Index_int_int.l0 k l a (l.length : Int) (i : Int)) r ∧ (r ≥ 0 ↔ ∃ j, j < l.length ∧ G l j = a) := by
  intro d
  induction d with
  | zero =>
    intro i hd hno
    obtain rfl : i = l.length := by omega
    refine ⟨-1, ?_, ⟨fun h => by omega, fun ⟨j, hj, e⟩ => (hno j hj e).elim⟩⟩
    refine Ev.step (fun k => slices_Index_int_int.l0.eq_2 ..) ?_
    have e0 : ¬ ((l.length : Int) < (l.length : Int)) := by omega
    simp only [e0, if_false]
    exact Ev.now _
  | succ d ih =>
    intro i hd hno
    have c1 : (i : Int) < (l.length : Int) := by omega
    have c2 : 0 ≤ (i : Int) := by omega
    have hw : wrap64 ((i : Int) + 1) = ((i + 1 : Nat) : Int) := by rw [w64 (by omega) (by omega)]; omega
    by_cases e : a = G l i
    · refine ⟨(i : Int), ?_, ⟨fun _ => ⟨i, by omega, e.symm⟩, fun _ => c2⟩⟩
      refine Ev.step (fun k => slices_Index_int_int.l0.eq_2 ..) ?_
      simp only [c1, c2, if_true, rdn, hw]
      rw [← e]
      simp only [if_true]
      exact Ev.now _
    · obtain ⟨r, hr, h⟩ := ih (i + 1) (by omega) (fun j hj => by
        by_cases ej : j = i
        · subst ej; exact fun g => e g.symm
        · exact hno j (by omega))
      refine ⟨r, ?_, h⟩
      refine Ev.step (fun k => slices_Index_int_int.l0.eq_2 ..) ?_
      simp only [c1, c2, if_true, rdn, hw, e, if_false]
      exact hr

theorem slices_Contains_ev (l : List Int) (a : Int) (hl : l.length ≤ 1048576) : ∃ b : Bool, Ev (fun k => slices_Contains_int_int.f k l a) b ∧ (b = true ↔ ∃ j, j < l.length ∧ G l j = a) := by
  obtain ⟨r, hr, h⟩ := slices_Index_l0 l a hl l.length 0 (by omega) (fun j hj => by omega)
  refine ⟨decide (r ≥ 0), ?_, by rw [decide_eq_true_eq]; exact h⟩
  unfold slices_Contains_int_int.f slices_Index_int_int.f
  refine Ev.bind hr ?_
  exact Ev.now _

-- needs Named
theorem impl_orderOk_l0 (n : Nat) (o : List Int) (hn : n ≤ 6) (h7 : o.length ≤ 7) (b : Bool) (hb : b = true ↔ OrderP n o) : ∀ (d i : Nat), i + d = o.length → (∀ j, j < i → 0 ≤ G o j ∧ G o j < n) → (∀ j q, j < i → q < i → G o j = G o q → j = q) →
    Ev (fun k => impl_orderOk.l0 k (n : Int) o o (o.length : Int) (i : Int)) b := by
  intro d
  induction d with
  | zero =>
    intro i hd h1 h2
    obtain rfl : i = o.length := by omega
    refine Ev.step (fun k => impl_orderOk.l0.eq_2 ..) ?_
    have e0 : ¬ ((o.length : Int) < (o.length : Int)) := by omega
    simp only [e0, if_false]
    refine Ev.val ?_
    rw [Bool.eq_iff_iff, hb, beq_iff_eq]
    constructor
    · intro e
      have e' : o.length = n := by omega
      exact ⟨e', fun i hi => h1 i (by omega), fun i j hi hj => h2 i j (by omega) (by omega)⟩
    · intro e; have := e.1; omega
  | succ d ih =>
    intro i hd h1 h2
    have hf : ¬ OrderP n o → b = false := fun g => by
      cases b with
      | true => exact (g (hb.1 rfl)).elim
      | false => rfl
    refine Ev.step (fun k => impl_orderOk.l0.eq_2 ..) ?_
    have c1 : (i : Int) < (o.length : Int) := by omega
    have c2 : 0 ≤ (i : Int) := by omega
    have hw : wrap64 ((i : Int) + 1) = ((i + 1 : Nat) : Int) := by rw [w64 (by omega) (by omega)]; omega
    simp only [c1, c2, if_true, rdn, hw]
    by_cases g1 : G o i < 0
    · simp only [g1, if_true]
      refine Ev.val (hf (fun g => ?_)).symm
      have h3 := g.1
      have := g.2.1 i (by omega)
      omega
    · by_cases g2 : G o i ≥ (n : Int)
      · simp only [g1, g2, if_true, if_false]
        refine Ev.val (hf (fun g => ?_)).symm
        have h3 := g.1
        have := g.2.1 i (by omega)
        omega
      · have c3 : (i : Int) ≤ (o.length : Int) := by omega
        simp only [g1, g2, c3, if_true, if_false, tn]
        have lt : (o.take i).length = i := by rw [List.length_take]; omega
        obtain ⟨c, hc, hce⟩ := slices_Contains_ev (o.take i) (G o i) (by omega)
        refine Ev.bind hc ?_
        cases c with
        | true =>
          simp only [if_true]
          refine Ev.val (hf (fun g => ?_)).symm
          obtain ⟨j, hj, e⟩ := hce.1 rfl
          rw [lt] at hj
          rw [G_take hj] at e
          have h3 := g.1
          have := g.2.2 j i (by omega) (by omega) e
          omega
        | false =>
          simp only [Bool.false_eq_true, if_false]
          have hno : ∀ j, j < i → G o j ≠ G o i := fun j hj e => by
            have := hce.2 ⟨j, by rw [lt]; exact hj, by rw [G_take hj]; exact e⟩
            cases this
          refine ih (i + 1) (by omega) (fun j hj => ?_) (fun j q hj hq e => ?_)
          · by_cases ej : j = i
            · subst ej; exact ⟨by omega, by omega⟩
            · exact h1 j (by omega)
          · by_cases ej : j = i
            · by_cases eq : q = i
              · omega
              · subst ej; exact (hno q (by omega) e.symm).elim
            · by_cases eq : q = i
              · subst eq; exact (hno j (by omega) e).elim
              · exact h2 j q (by omega) (by omega) e
open Classical in
theorem impl_orderOk_ev (n : Nat) (o : List Int) (hn : n ≤ 6) (h7 : o.length ≤ 7) : Ev (fun k => impl_orderOk.f k (n : Int) o) (decide (OrderP n o)) := by
  unfold impl_orderOk.f
  exact impl_orderOk_l0 n o hn h7 _ (by rw [decide_eq_true_eq]) o.length 0 (by omega) (fun j hj => by omega) (fun j q hj => by omega)

/-- What holds of the rows while node i is laid, its first j neighbours done. -/
def NetInv (net o : List Int) (i j : Nat) (x : List Int) : Prop := x.length = net.length ∧ ∀ p, p < net.length → (0 ≤ G x (G o p).toNat ∧ G x (G o p).toNat < 64) ∧
  ∀ k : Nat, bitOf (G x (G o p).toNat) k ↔ ∃ q, q < net.length ∧ (p < i ∨ (p = i ∧ q < j)) ∧ adj net p q ∧ G o q = (k : Int)
theorem impl_NamedNet_l1 (net o : List Int) (hn : NetP net) (ho : OrderP net.length o) (i : Nat) (hi : i < net.length)
    (hnext : ∀ x, NetInv net o (i + 1) 0 x → ∃ y, Ev (fun k => impl_NamedNet.l0 k net o x net (net.length : Int) ((i + 1 : Nat) : Int)) (y, true) ∧ NamedN net o y) : ∀ (d j : Nat) (x : List Int), j + d = net.length → NetInv net o i j x →
    ∃ y, Ev (fun k => impl_NamedNet.l1 k net o x (i : Int) (G net i) net (net.length : Int) (i : Int) (net.length : Int) (j : Int)) (y, true) ∧ NamedN net o y := by
  intro d
  have h6 := hn.2.1
  have hlo := ho.1
  have hwi : wrap64 ((i : Int) + 1) = ((i + 1 : Nat) : Int) := by rw [w64 (by omega) (by omega)]; omega
  induction d with
  | zero =>
    intro j x hd hI
    obtain rfl : j = net.length := by omega
    obtain ⟨y, hy, hN⟩ := hnext x ⟨hI.1, fun p hp => ⟨(hI.2 p hp).1, fun k => by
      rw [(hI.2 p hp).2 k]
      constructor
      · rintro ⟨q, hq, hc, ha, e⟩
        exact ⟨q, hq, Or.inl (by rcases hc with g | g <;> omega), ha, e⟩
      · rintro ⟨q, hq, hc, ha, e⟩
        exact ⟨q, hq, by rcases hc with g | g <;> omega, ha, e⟩⟩⟩
    refine ⟨y, ?_, hN⟩
    refine Ev.step (fun k => impl_NamedNet.l1.eq_2 ..) ?_
    have e0 : ¬ ((net.length : Int) < (net.length : Int)) := by omega
    simp only [e0, if_false, hwi]
    exact hy
  | succ d ih =>
    intro j x hd hI
    have c1 : (j : Int) < (net.length : Int) := by omega
    have c2 : 0 ≤ (j : Int) := by omega
    have c3 : 0 ≤ (i : Int) := by omega
    have c4 : (i : Int) < (o.length : Int) := by omega
    have c5 : (j : Int) < (o.length : Int) := by omega
    have hbi := ho.2.1 i hi
    have hbj := ho.2.1 j (by omega)
    have hxl := hI.1
    have c6 : G o i < (x.length : Int) := by omega
    have hw : wrap64 ((j : Int) + 1) = ((j + 1 : Nat) : Int) := by rw [w64 (by omega) (by omega)]; omega
    have hbit := bit_and (G net i) (j := j) (by omega)
    by_cases ha : adj net i j
    · obtain ⟨b, eb⟩ := Int.eq_ofNat_of_zero_le hbj.1
      have hIi := hI.2 i hi
      obtain ⟨z, hz, hz0, hz64, hzb⟩ := or_bit hIi.1.1 hIi.1.2 (j := b) (by omega)
      have hset : NetInv net o i (j + 1) (x.set (G o i).toNat z) := by
        refine ⟨by rw [List.length_set]; exact hxl, fun p hp => ?_⟩
        by_cases e : p = i
        · subst e
          rw [G_set_self _ (by omega)]
          refine ⟨⟨hz0, hz64⟩, fun k => ?_⟩
          have g1 : bitOf z k ↔ (bitOf (G x (G o p).toNat) k ∨ k = b) := hzb k
          rw [g1, hIi.2 k]
          constructor
          · rintro (⟨q, hq, hc, hqa, e⟩ | e)
            · exact ⟨q, hq, by rcases hc with g | g <;> omega, hqa, e⟩
            · exact ⟨j, by omega, Or.inr ⟨rfl, by omega⟩, ha, by omega⟩
          · rintro ⟨q, hq, hc, hqa, e⟩
            by_cases eq : q = j
            · subst eq; exact Or.inr (by omega)
            · exact Or.inl ⟨q, hq, by rcases hc with g | g <;> omega, hqa, e⟩
        · have hbp := ho.2.1 p hp
          rw [G_set_ne _ (fun e2 => e (ho.2.2 p i hp hi (by omega)))]
          refine ⟨(hI.2 p hp).1, fun k => ?_⟩
          rw [(hI.2 p hp).2 k]
          constructor
          · rintro ⟨q, hq, hc, hqa, e2⟩
            exact ⟨q, hq, by rcases hc with g | g <;> omega, hqa, e2⟩
          · rintro ⟨q, hq, hc, hqa, e2⟩
            exact ⟨q, hq, by rcases hc with g | g <;> omega, hqa, e2⟩
      obtain ⟨y, hy, hN⟩ := ih (j + 1) _ (by omega) hset
      refine ⟨y, ?_, hN⟩
      refine Ev.step (fun k => impl_NamedNet.l1.eq_2 ..) ?_
      have ha' : G net i / 2 ^ j % 2 = 1 := ha
      have hrd : rd x (G o i) = G x (G o i).toNat := rfl
      simp only [c1, c2, c3, c4, c5, c6, if_true, rdn, hbit, ha', hbi.1, hbj.1, hw, hrd]
      rw [eb, hz]
      exact hy
    · have hsame : NetInv net o i (j + 1) x := by
        refine ⟨hxl, fun p hp => ⟨(hI.2 p hp).1, fun k => ?_⟩⟩
        rw [(hI.2 p hp).2 k]
        constructor
        · rintro ⟨q, hq, hc, hqa, e2⟩
          exact ⟨q, hq, by rcases hc with g | g <;> omega, hqa, e2⟩
        · rintro ⟨q, hq, hc, hqa, e2⟩
          refine ⟨q, hq, ?_, hqa, e2⟩
          rcases hc with g | g
          · exact Or.inl g
          · by_cases eq : q = j
            · subst eq
              have := g.1
              subst this
              exact (ha hqa).elim
            · omega
      obtain ⟨y, hy, hN⟩ := ih (j + 1) x (by omega) hsame
      refine ⟨y, ?_, hN⟩
      refine Ev.step (fun k => impl_NamedNet.l1.eq_2 ..) ?_
      have ha' : ¬ G net i / 2 ^ j % 2 = 1 := ha
      simp only [c1, c2, if_true, hbit, ha', if_false, hw]
      exact hy
theorem impl_NamedNet_l0 (net o : List Int) (hn : NetP net) (ho : OrderP net.length o) : ∀ (d i : Nat) (x : List Int), i + d = net.length → NetInv net o i 0 x →
    ∃ y, Ev (fun k => impl_NamedNet.l0 k net o x net (net.length : Int) (i : Int)) (y, true) ∧ NamedN net o y := by
  intro d
  have h6 := hn.2.1
  induction d with
  | zero =>
    intro i x hd hI
    obtain rfl : i = net.length := by omega
    refine ⟨x, ?_, hI.1, fun p hp => ⟨(hI.2 p hp).1.1, fun k => ?_⟩⟩
    · refine Ev.step (fun k => impl_NamedNet.l0.eq_2 ..) ?_
      have e0 : ¬ ((net.length : Int) < (net.length : Int)) := by omega
      simp only [e0, if_false]
      exact Ev.now _
    · rw [(hI.2 p hp).2 k]
      constructor
      · rintro ⟨q, hq, _, ha, e⟩; exact ⟨q, hq, ha, e⟩
      · rintro ⟨q, hq, ha, e⟩; exact ⟨q, hq, Or.inl hp, ha, e⟩
  | succ d ih =>
    intro i x hd hI
    obtain ⟨y, hy, hN⟩ := impl_NamedNet_l1 net o hn ho i (by omega) (fun x hx => ih (i + 1) x (by omega) hx) net.length 0 x (by omega) hI
    refine ⟨y, ?_, hN⟩
    refine Ev.step (fun k => impl_NamedNet.l0.eq_2 ..) ?_
    have c1 : (i : Int) < (net.length : Int) := by omega
    have c2 : 0 ≤ (i : Int) := by omega
    simp only [c1, c2, if_true, rdn]
    exact hy
theorem impl_NamedNet_yes (net o : List Int) (hn : NetP net) (h7 : o.length ≤ 7) (ho : OrderP net.length o) : ∃ y, Ev (fun k => impl_NamedNet.f k net o) (y, true) ∧ NamedN net o y := by
  have h6 := hn.2.1
  obtain ⟨y, hy, hN⟩ := impl_NamedNet_l0 net o hn ho net.length 0 (List.replicate net.length 0) (by omega) ⟨List.length_replicate, fun p hp => by
    have hz : G (List.replicate net.length 0) (G o p).toNat = 0 := by
      rw [replicate_mk, G_mk _ (by have := ho.2.1 p hp; omega)]
    rw [hz]
    refine ⟨⟨by omega, by omega⟩, fun k => ⟨fun g => ?_, fun ⟨q, hq, hc, _⟩ => by omega⟩⟩
    unfold bitOf at g
    rw [Int.zero_ediv] at g
    omega⟩
  refine ⟨y, ?_, hN⟩
  unfold impl_NamedNet.f
  refine Ev.bind (impl_NetOk_ev net (by omega)) ?_
  simp only [hn, decide_true, if_true]
  refine Ev.bind (impl_orderOk_ev net.length o h6 h7) ?_
  simp only [ho, decide_true, Bool.not_true]
  refine Ev.step (fun k => impl_NamedNet.j0.eq_2 ..) ?_
  have c1 : 0 ≤ (net.length : Int) := by omega
  have c2 : net.length ≤ 35184372088832 := by omega
  simp only [Bool.false_eq_true, if_false, c1, if_true, tn, c2]
  exact hy
theorem impl_NamedNet_no (net o : List Int) (hn : NetP net) (h7 : o.length ≤ 7) (ho : ¬ OrderP net.length o) : Ev (fun k => impl_NamedNet.f k net o) ([], false) := by
  have h6 := hn.2.1
  unfold impl_NamedNet.f
  refine Ev.bind (impl_NetOk_ev net (by omega)) ?_
  simp only [hn, decide_true, if_true]
  refine Ev.bind (impl_orderOk_ev net.length o h6 h7) ?_
  simp only [ho, decide_false, Bool.not_false]
  refine Ev.step (fun k => impl_NamedNet.j0.eq_2 ..) ?_
  simp only [if_true]
  exact Ev.now _

theorem impl_NamedState_l0 (o s : List Int) (h6 : s.length ≤ 6) (ho : OrderP s.length o) : ∀ (d i : Nat) (x : List Int), i + d = s.length → x.length = s.length → (∀ p, p < i → G x (G o p).toNat = G s p) →
    ∃ y, Ev (fun k => impl_NamedState.l0 k o x s (s.length : Int) (i : Int)) (y, true) ∧ NamedS o s y := by
  intro d
  induction d with
  | zero =>
    intro i x hd hx h
    obtain rfl : i = s.length := by omega
    refine ⟨x, ?_, hx, h⟩
    refine Ev.step (fun k => impl_NamedState.l0.eq_2 ..) ?_
    have e0 : ¬ ((s.length : Int) < (s.length : Int)) := by omega
    simp only [e0, if_false]
    exact Ev.now _
  | succ d ih =>
    intro i x hd hx h
    have hb := ho.2.1 i (by omega)
    have hlo := ho.1
    obtain ⟨y, hy, hN⟩ := ih (i + 1) (x.set (G o i).toNat (G s i)) (by omega) (by rw [List.length_set]; exact hx) (fun p hp => by
      by_cases e : p = i
      · subst e; exact G_set_self _ (by omega)
      · have hbp := ho.2.1 p (by omega)
        rw [G_set_ne _ (fun e2 => e (ho.2.2 p i (by omega) (by omega) (by omega)))]
        exact h p (by omega))
    refine ⟨y, ?_, hN⟩
    refine Ev.step (fun k => impl_NamedState.l0.eq_2 ..) ?_
    have c1 : (i : Int) < (s.length : Int) := by omega
    have c2 : 0 ≤ (i : Int) := by omega
    have c3 : (i : Int) < (o.length : Int) := by omega
    have c4 : G o i < (x.length : Int) := by omega
    have hw : wrap64 ((i : Int) + 1) = ((i + 1 : Nat) : Int) := by rw [w64 (by omega) (by omega)]; omega
    simp only [c1, c2, c3, if_true, rdn, hb.1, c4, hw]
    exact hy
theorem impl_NamedState_yes (o s : List Int) (hs : StateP 3 s) (h7 : o.length ≤ 7) (ho : OrderP s.length o) : ∃ y, Ev (fun k => impl_NamedState.f k 3 s o) (y, true) ∧ NamedS o s y := by
  have h6 := hs.2.2.2.1
  obtain ⟨y, hy, hN⟩ := impl_NamedState_l0 o s h6 ho s.length 0 (List.replicate s.length 0) (by omega) List.length_replicate (fun p hp => by omega)
  refine ⟨y, ?_, hN⟩
  unfold impl_NamedState.f
  refine Ev.bind (impl_StateOk_ev 3 s (by omega)) ?_
  simp only [hs, decide_true, if_true]
  refine Ev.bind (impl_orderOk_ev s.length o h6 h7) ?_
  simp only [ho, decide_true, Bool.not_true]
  refine Ev.step (fun k => impl_NamedState.j0.eq_2 ..) ?_
  have c1 : 0 ≤ (s.length : Int) := by omega
  have c2 : s.length ≤ 35184372088832 := by omega
  simp only [Bool.false_eq_true, if_false, c1, if_true, tn, c2]
  exact hy
theorem impl_NamedState_no (o s : List Int) (hs : StateP 3 s) (h7 : o.length ≤ 7) (ho : ¬ OrderP s.length o) : Ev (fun k => impl_NamedState.f k 3 s o) ([], false) := by
  have h6 := hs.2.2.2.1
  unfold impl_NamedState.f
  refine Ev.bind (impl_StateOk_ev 3 s (by omega)) ?_
  simp only [hs, decide_true, if_true]
  refine Ev.bind (impl_orderOk_ev s.length o h6 h7) ?_
  simp only [ho, decide_false, Bool.not_false]
  refine Ev.step (fun k => impl_NamedState.j0.eq_2 ..) ?_
  simp only [if_true]
  exact Ev.now _

-- needs Named
theorem FnTurnNamed : laws_FnTurnNamed.Pure := by
  intro l m _ _ hwf _ _ hwf2
  refine Ev.rounds (r := true) ?_
  obtain ⟨net, s, hr, h6, h7⟩ := DrawTurnStep_ev l hwf
  obtain ⟨net2, o, hr2, g6, g7⟩ := DrawNamedNet_ev m hwf2
  unfold laws_FnTurnNamed.f
  by_cases hl : l.length ≤ 1048576
  · simp only [show ¬ (l.length : Int) > 1048576 by omega, if_false]
    refine Ev.step (fun k => laws_FnTurnNamed.j0.eq_2 ..) ?_
    by_cases hm : m.length ≤ 1048576
    · have e0 : decide ((m.length : Int) > 1048576) = false := decide_eq_false (by omega)
      simp only [e0, Bool.false_eq_true, if_false]
      clear e0
      refine Ev.bind hr ?_
      refine Ev.bind (impl_TurnStep_ev net s (by omega) (by omega)) ?_
      by_cases hA : Asked net 3 s
      · rw [turnStep_yes hA]
        have ht := turn_length net s
        have h1 := asked1 hA
        have hl2 := hA.2.2
        have e1 : ¬ ((turn net s).length : Int) = 0 := by omega
        simp only [e1, if_false]
        refine Ev.bind hr2 ?_
        have hAt := turn_ok hA
        by_cases ho : OrderP net.length o
        · obtain ⟨x, hx, hX⟩ := impl_NamedNet_yes net o hA.1 g7 ho
          obtain ⟨y, hy, hY⟩ := impl_NamedState_yes o s hA.2.1 g7 (by rw [← hl2]; exact ho)
          obtain ⟨z, hz, hZ⟩ := impl_NamedState_yes o (turn net s) hAt.2.1 g7 (by rw [ht, ← hl2]; exact ho)
          obtain ⟨hB, hT⟩ := named_turn hA ho hX hY hZ
          have hxl := hX.1
          have hyl := hY.1
          refine Ev.bind hx ?_
          refine Ev.bind hy ?_
          refine Ev.bind hz ?_
          refine Ev.bind alive_ev ?_
          simp only [if_true]
          refine Ev.bind (impl_TurnStep_ev x y (by omega) (by omega)) ?_
          rw [turnStep_yes hB, hT]
          have hzl := hZ.1
          refine Ev.bind (laws_sameInts_ev z z (by omega)) ?_
          simp only [decide_true]
          exact Ev.now _
        · refine Ev.bind (impl_NamedNet_no net o hA.1 g7 ho) ?_
          refine Ev.bind (impl_NamedState_no o s hA.2.1 g7 (by rw [← hl2]; exact ho)) ?_
          refine Ev.bind (impl_NamedState_no o (turn net s) hAt.2.1 g7 (by rw [ht, ← hl2]; exact ho)) ?_
          refine Ev.bind alive_ev ?_
          simp only [if_true, Bool.false_eq_true, if_false]
          exact Ev.now _
      · rw [turnStep_no hA]
        have e1 : (([] : List Int).length : Int) = 0 := rfl
        simp only [e1, if_true]
        refine Ev.bind (spec_TurnStep_ev net s (by omega) (by omega)) ?_
        rw [turnStep_no hA]
        simp only [e1, if_true]
        refine Ev.bind alive_ev ?_
        exact Ev.now _
    · have e0 : decide ((m.length : Int) > 1048576) = true := decide_eq_true (by omega)
      simp only [e0, if_true]
      exact Ev.now _
  · simp only [show (l.length : Int) > 1048576 by omega, if_true]
    refine Ev.step (fun k => laws_FnTurnNamed.j0.eq_2 ..) ?_
    simp only [if_true]
    exact Ev.now _

end Go.Proofs.Ytgkjapgfldnjkaa.Pure
