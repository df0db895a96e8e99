/- Proved: the statement FnWaveEnd, for every input, without further conditions. -/
import Derived.Test.YtbbafjmfdbjkaaaPFnWaveEndx9
import Derived.Test.YtbbafjmfdbjkaaaBase
import Derived.Test.YtbbafjmfdbjkaaaFire
import Derived.Test.YtbbafjmfdbjkaaaStand
namespace Go.Proofs.Ytbbafjmfdbjkaaa.Pure
open Go.RowKit Go.Proofs.Ytbbafjmfdbjkaaa.PFnWaveEnd Go.Proofs.YtbbafjmfdbjkaaaW.PrintWords Go.Proofs.YtbbafjmfdbjkaaaW.PrintLast Go.Proofs.Ytbbafjmfdbjkaaa.B Go.Proofs.Ytbbafjmfdbjkaaa.C
set_option linter.unusedSimpArgs false
set_option linter.unusedVariables false

theorem impl_NetOk_l1 (l : List Int) (h6 : l.length ≤ 6) (i : Nat) (hi : i < l.length) (r : Bool)
    (hbad : ∀ k, k < l.length → ¬ (adj l i k ↔ adj l k i) → r = false)
    (hgood : (∀ k, k < l.length → (adj l i k ↔ adj l k i)) → Ev (fun k => impl_NetOk.l0 k l l (l.length : Int) ((i + 1 : Nat) : Int)) r) :
    ∀ (d : Nat) (j : Nat), l.length - j = d → j ≤ l.length → (∀ k, k < j → (adj l i k ↔ adj l k i)) →
      Ev (fun k => impl_NetOk.l1 k l (i : Int) (G l i) l (l.length : Int) (i : Int) (l.length : Int) (j : Int)) r := by
  intro d
  induction d with
  | zero =>
    intro j hd hj hk
    refine Ev.step (fun k => impl_NetOk.l1.eq_2 ..) ?_
    simp (disch := omega) only [if_pos, if_neg, w64, rdn, rd0, tn, sc, Option.bind_some, ↓reduceIte, Bool.false_eq_true, Bool.true_eq_false]
    exact hgood (fun k hkl => hk k (by omega))
  | succ d ih =>
    intro j hd hj hk
    refine Ev.step (fun k => impl_NetOk.l1.eq_2 ..) ?_
    have b1 := bit_and (G l i) (j := j) (by omega)
    have b2 := bit_and (G l j) (j := i) (by omega)
    have m1 := Int.emod_two_eq (G l i / 2 ^ j)
    have m2 := Int.emod_two_eq (G l j / 2 ^ i)
    by_cases e : adj l i j ↔ adj l j i
    · have e' : G l i / 2 ^ j % 2 = G l j / 2 ^ i % 2 := by
        unfold adj at e
        by_cases c : G l i / 2 ^ j % 2 = 1
        · rw [c, e.1 c]
        · have c2 := fun h => c (e.2 h)
          omega
      simp only [rdn, b1, b2]
      simp (disch := omega) only [if_pos, if_neg, w64, rdn, rd0, tn, sc, Option.bind_some, ↓reduceIte, Bool.false_eq_true, Bool.true_eq_false]
      refine ih _ (by omega) (by omega) ?_
      intro k hkj
      by_cases e' : k = j
      · subst e'; exact e
      · exact hk k (by omega)
    · have e' : ¬ G l i / 2 ^ j % 2 = G l j / 2 ^ i % 2 := by
        intro h
        apply e
        unfold adj
        rw [h]
      simp only [rdn, b1, b2]
      simp (disch := omega) only [if_pos, if_neg, w64, rdn, rd0, tn, sc, Option.bind_some, ↓reduceIte, Bool.false_eq_true, Bool.true_eq_false]
      exact Ev.val (hbad j (by omega) e).symm
theorem impl_NetOk_l0 (l : List Int) (h1 : 1 ≤ l.length) (h6 : l.length ≤ 6) : ∀ (d : Nat) (i : Nat), l.length - i = d → i ≤ l.length →
    (∀ j, j < i → (0 ≤ G l j ∧ G l j < 2 ^ l.length ∧ ¬ adj l j j ∧ ∀ k, k < l.length → (adj l j k ↔ adj l k j))) → Ev (fun k => impl_NetOk.l0 k l l (l.length : Int) (i : Int)) (decide (NetP l)) := by
  intro d
  induction d with
  | zero =>
    intro i hd hi hj
    refine Ev.step (fun k => impl_NetOk.l0.eq_2 ..) ?_
    simp (disch := omega) only [if_pos, if_neg, w64, rdn, rd0, tn, sc, Option.bind_some, ↓reduceIte, Bool.false_eq_true, Bool.true_eq_false]
    have : NetP l := ⟨h1, h6, fun j h => hj j (by omega)⟩
    exact Ev.val (by simp [this])
  | succ d ih =>
    intro i hd hi hj
    refine Ev.step (fun k => impl_NetOk.l0.eq_2 ..) ?_
    have hs := shl1 (n := l.length) (by omega)
    have hb := bit_and (G l i) (j := i) (by omega)
    simp only [rdn, hs, hb]
    have bad : ¬ (0 ≤ G l i ∧ G l i < 2 ^ l.length ∧ ¬ adj l i i) → decide (NetP l) = false := by
      intro h
      have : ¬ NetP l := fun p => h ⟨(p.2.2 i (by omega)).1, (p.2.2 i (by omega)).2.1, (p.2.2 i (by omega)).2.2.1⟩
      simp [this]
    by_cases e0 : G l i < 0
    · simp (disch := omega) only [if_pos, if_neg, w64, rdn, rd0, tn, sc, Option.bind_some, ↓reduceIte, Bool.false_eq_true, Bool.true_eq_false]
      refine Ev.step (fun k => impl_NetOk.j2.eq_2 ..) ?_
      simp (disch := omega) only [if_pos, if_neg, w64, rdn, rd0, tn, sc, Option.bind_some, ↓reduceIte, Bool.false_eq_true, Bool.true_eq_false]
      exact Ev.val (bad (by omega)).symm
    · by_cases e1 : G l i ≥ 2 ^ l.length
      · simp (disch := omega) only [if_pos, if_neg, w64, rdn, rd0, tn, sc, Option.bind_some, ↓reduceIte, Bool.false_eq_true, Bool.true_eq_false]
        refine Ev.step (fun k => impl_NetOk.j2.eq_2 ..) ?_
        simp (disch := omega) only [if_pos, if_neg, w64, rdn, rd0, tn, sc, Option.bind_some, ↓reduceIte, Bool.false_eq_true, Bool.true_eq_false]
        exact Ev.val (bad (by omega)).symm
      · simp (disch := omega) only [if_pos, if_neg, w64, rdn, rd0, tn, sc, Option.bind_some, ↓reduceIte, Bool.false_eq_true, Bool.true_eq_false]
        refine Ev.step (fun k => impl_NetOk.j2.eq_2 ..) ?_
        by_cases e2 : G l i / 2 ^ i % 2 = 1
        · have e3 : (G l i / 2 ^ i % 2 == 1) = true := by simp [e2]
          simp only [e3]
          simp (disch := omega) only [if_pos, if_neg, w64, rdn, rd0, tn, sc, Option.bind_some, ↓reduceIte, Bool.false_eq_true, Bool.true_eq_false]
          exact Ev.val (bad (fun h => h.2.2 e2)).symm
        · have e3 : (G l i / 2 ^ i % 2 == 1) = false := by simp [e2]
          simp only [e3]
          simp (disch := omega) only [if_pos, if_neg, w64, rdn, rd0, tn, sc, Option.bind_some, ↓reduceIte, Bool.false_eq_true, Bool.true_eq_false]
          refine impl_NetOk_l1 l h6 i (by omega) _ ?_ ?_ _ 0 rfl (by omega) (fun k h => by omega)
          · intro k hk hn
            have : ¬ NetP l := fun p => hn ((p.2.2 i (by omega)).2.2.2 k hk)
            simp [this]
          · intro hall
            refine ih _ (by omega) (by omega) ?_
            intro j hji
            by_cases e' : j = i
            · subst e'; exact ⟨by omega, by omega, e2, hall⟩
            · exact hj j (by omega)
theorem impl_NetOk_ev (l : List Int) (hl : l.length ≤ 1048576) : Ev (fun k => impl_NetOk.f k l) (decide (NetP l)) := by
  unfold impl_NetOk.f
  by_cases h1 : l.length < 1
  · simp (disch := omega) only [if_pos, if_neg, w64, rdn, rd0, tn, sc, Option.bind_some, ↓reduceIte, Bool.false_eq_true, Bool.true_eq_false]
    refine Ev.step (fun k => impl_NetOk.j0.eq_2 ..) ?_
    simp (disch := omega) only [if_pos, if_neg, w64, rdn, rd0, tn, sc, Option.bind_some, ↓reduceIte, Bool.false_eq_true, Bool.true_eq_false]
    have : ¬ NetP l := fun p => by have := p.1; omega
    exact Ev.val (by simp [this])
  · simp (disch := omega) only [if_pos, if_neg, w64, rdn, rd0, tn, sc, Option.bind_some, ↓reduceIte, Bool.false_eq_true, Bool.true_eq_false]
    refine Ev.step (fun k => impl_NetOk.j0.eq_2 ..) ?_
    by_cases h6 : l.length > 6
    · have : decide ((l.length : Int) > 6) = true := by simp; omega
      simp only [this]
      simp (disch := omega) only [if_pos, if_neg, w64, rdn, rd0, tn, sc, Option.bind_some, ↓reduceIte, Bool.false_eq_true, Bool.true_eq_false]
      have : ¬ NetP l := fun p => by have := p.2.1; omega
      exact Ev.val (by simp [this])
    · have : decide ((l.length : Int) > 6) = false := by simp; omega
      simp only [this]
      simp (disch := omega) only [if_pos, if_neg, w64, rdn, rd0, tn, sc, Option.bind_some, ↓reduceIte, Bool.false_eq_true, Bool.true_eq_false]
      exact impl_NetOk_l0 l (by omega) (by omega) _ 0 rfl (by omega) (fun j h => by omega)

theorem alive_ev : Ev (fun k => laws_alive.f k) true := by
  unfold laws_alive.f
  refine Ev.bind (impl_NetOk_ev _ (by decide)) ?_
  have e1 : decide (NetP [2, 1]) = true := by decide
  simp only [e1]
  simp (disch := omega) only [if_pos, if_neg, w64, rdn, rd0, tn, sc, Option.bind_some, ↓reduceIte, Bool.false_eq_true, Bool.true_eq_false]
  refine Ev.bind (impl_NetOk_ev _ (by decide)) ?_
  have e2 : decide (NetP [1]) = false := by decide
  simp only [e2, Bool.not_false]
  exact Ev.now _

/-- A reader's bytes. -/
def RdOk (b : List Int) : Prop := b.length ≤ 2000 ∧ ∀ i, 0 ≤ G b i ∧ G b i ≤ 255
theorem spec_l20Open_eq (l : List Int) (h : ∀ x ∈ l, (Lit.int .u8 x).wf = true) : ∃ b, spec_l20Open.f l = some (b, 0) ∧ RdOk b := by
  have hl : ∀ i, 0 ≤ G l i ∧ G l i ≤ 255 := by
    intro i
    by_cases e : i < l.length
    · exact wf_u8.1 (h _ (G_mem e))
    · rw [G_of_ge (by omega)]; omega
  unfold spec_l20Open.f
  by_cases e : l.length > 2000
  · simp (disch := omega) only [if_pos, if_neg, w64, rdn, rd0, tn, sc, Option.bind_some, ↓reduceIte, Bool.false_eq_true, Bool.true_eq_false]
    refine ⟨_, rfl, by simp; omega, fun i => ?_⟩
    by_cases ei : i < 2000
    · rw [G_take ei]; exact hl i
    · rw [G_of_ge (by simp; omega)]; omega
  · simp (disch := omega) only [if_pos, if_neg, w64, rdn, rd0, tn, sc, Option.bind_some, ↓reduceIte, Bool.false_eq_true, Bool.true_eq_false]
    exact ⟨_, rfl, by omega, hl⟩

theorem xor_nn {a b : Int} (ha : 0 ≤ a) (ha' : a < 4611686018427387904) (hb : 0 ≤ b) (hb' : b < 4611686018427387904) : 0 ≤ Go.bits .xor .i64 a b := by
  obtain ⟨m, rfl⟩ := Int.eq_ofNat_of_zero_le ha
  obtain ⟨n, rfl⟩ := Int.eq_ofNat_of_zero_le hb
  show 0 ≤ IntKind.i64.wrap (((BitVec.ofInt 64 (m : Int) ^^^ BitVec.ofInt 64 (n : Int)).toNat : Nat) : Int)
  have hx : (BitVec.ofInt 64 (m : Int) ^^^ BitVec.ofInt 64 (n : Int)).toNat < 2 ^ 62 := by
    rw [BitVec.toNat_xor]
    apply Nat.xor_lt_two_pow
    · rw [BitVec.ofInt_natCast, BitVec.toNat_ofNat, Nat.mod_eq_of_lt (by omega)]; omega
    · rw [BitVec.ofInt_natCast, BitVec.toNat_ofNat, Nat.mod_eq_of_lt (by omega)]; omega
  rw [i64_w, w64 (by omega) (by omega)]; omega
theorem pick_ev (b : List Int) (hb : RdOk b) (p n : Int) (hp : 0 ≤ p) (hp2 : p ≤ 1000000) (hn : n ≤ 1000000) :
    ∃ v, Ev (fun k => spec_l20Rd_pick.f k b p n) (v, p + 1) ∧ 0 ≤ v ∧ (1 ≤ n → v < n) ∧ (n < 1 → v = 0) := by
  obtain ⟨q, rfl⟩ := Int.eq_ofNat_of_zero_le hp
  unfold spec_l20Rd_pick.f
  have hw : wrap64 ((q : Int) + 1) = (q : Int) + 1 := w64 (by omega) (by omega)
  have hw2 : wrap64 ((q : Int) + 1 - 1) = (q : Int) := by rw [w64 (by omega) (by omega)]; omega
  by_cases h1 : n < 1
  · refine ⟨0, ?_, by omega, fun h => by omega, fun _ => rfl⟩
    simp only [hw]
    rw [show (fun k => if n < 1 then spec_l20Rd_pick.j0 k n true b ((q : Int) + 1) else spec_l20Rd_pick.j0 k n ((b.length : Int) == 0) b ((q : Int) + 1)) = (fun k => spec_l20Rd_pick.j0 k n true b ((q : Int) + 1)) from funext fun k => if_pos h1]
    refine Ev.step (fun k => spec_l20Rd_pick.j0.eq_2 ..) ?_
    simp only [↓reduceIte]
    exact Ev.now _
  · simp only [hw]
    rw [show (fun k => if n < 1 then spec_l20Rd_pick.j0 k n true b ((q : Int) + 1) else spec_l20Rd_pick.j0 k n ((b.length : Int) == 0) b ((q : Int) + 1)) = (fun k => spec_l20Rd_pick.j0 k n ((b.length : Int) == 0) b ((q : Int) + 1)) from funext fun k => if_neg h1]
    by_cases h0 : b.length = 0
    · refine ⟨0, ?_, by omega, fun h => by omega, fun _ => rfl⟩
      have : ((b.length : Int) == 0) = true := beq_iff_eq.2 (by omega)
      rw [this]
      refine Ev.step (fun k => spec_l20Rd_pick.j0.eq_2 ..) ?_
      simp only [↓reduceIte]
      exact Ev.now _
    · have hz : ((b.length : Int) == 0) = false := beq_eq_false_iff_ne.2 (by omega)
      rw [hz]
      by_cases hq : q < b.length
      · have hg := hb.2 q
        have hwg : wrap64 (G b q) = G b q := w64 (by omega) (by omega)
        refine ⟨G b q % n, ?_, Int.emod_nonneg _ (by omega), fun h => Int.emod_lt_of_pos _ (by omega), fun h => absurd h h1⟩
        refine Ev.step (fun k => spec_l20Rd_pick.j0.eq_2 ..) ?_
        simp only [hw2, rdn, hwg]
        rw [tmod_nn hg.1]
        simp (disch := omega) only [if_pos, if_neg, w64, rdn, rd0, tn, sc, Option.bind_some, ↓reduceIte, Bool.false_eq_true, Bool.true_eq_false]
        exact Ev.now _
      · have hL := hb.1
        have hm1 : q % b.length < b.length := Nat.mod_lt _ (by omega)
        have hm2 : (q * 7 + 3) % b.length < b.length := Nat.mod_lt _ (by omega)
        have e1 : Int.tmod (q : Int) (b.length : Int) = ((q % b.length : Nat) : Int) := by rw [tmod_nn (by omega)]; rfl
        have e2 : wrap64 (wrap64 ((q : Int) * 7) + 3) = ((q * 7 + 3 : Nat) : Int) := by rw [w64 (n := (q : Int) * 7) (by omega) (by omega), w64 (by omega) (by omega)]; omega
        have e3 : Int.tmod ((q * 7 + 3 : Nat) : Int) (b.length : Int) = (((q * 7 + 3) % b.length : Nat) : Int) := by rw [tmod_nn (by omega)]; rfl
        obtain ⟨Q, hQ⟩ : ∃ Q, Q = q / b.length := ⟨_, rfl⟩
        have hd : Q ≤ q := by rw [hQ]; exact Nat.div_le_self _ _
        have e4 : Int.tdiv (q : Int) (b.length : Int) = (Q : Int) := by rw [tdiv_nn (by omega), hQ]; rfl
        clear hQ
        have g1 := hb.2 (q % b.length)
        have g2 := hb.2 ((q * 7 + 3) % b.length)
        have f1 : wrap64 (wrap64 (G b (q % b.length)) * 131) = G b (q % b.length) * 131 := by rw [w64 (n := G b (q % b.length)) (by omega) (by omega), w64 (by omega) (by omega)]
        have f2 : wrap64 (wrap64 (G b ((q * 7 + 3) % b.length)) * 1117) = G b ((q * 7 + 3) % b.length) * 1117 := by rw [w64 (n := G b ((q * 7 + 3) % b.length)) (by omega) (by omega), w64 (by omega) (by omega)]
        have f3 : wrap64 ((q : Int) * 29) = (q : Int) * 29 := w64 (by omega) (by omega)
        have f4 : wrap64 (wrap64 ((Q : Int)) * 53) = (Q : Int) * 53 := by rw [w64 (n := (Q : Int)) (by omega) (by omega), w64 (by omega) (by omega)]
        have f5 : wrap64 (G b (q % b.length) * 131 + G b ((q * 7 + 3) % b.length) * 1117) = G b (q % b.length) * 131 + G b ((q * 7 + 3) % b.length) * 1117 := w64 (by omega) (by omega)
        have f6 : wrap64 (G b (q % b.length) * 131 + G b ((q * 7 + 3) % b.length) * 1117 + (q : Int) * 29) = G b (q % b.length) * 131 + G b ((q * 7 + 3) % b.length) * 1117 + (q : Int) * 29 := w64 (by omega) (by omega)
        have f7 : wrap64 (G b (q % b.length) * 131 + G b ((q * 7 + 3) % b.length) * 1117 + (q : Int) * 29 + (Q : Int) * 53) = G b (q % b.length) * 131 + G b ((q * 7 + 3) % b.length) * 1117 + (q : Int) * 29 + (Q : Int) * 53 := w64 (by omega) (by omega)
        obtain ⟨X, hX⟩ : ∃ X, X = G b (q % b.length) * 131 + G b ((q * 7 + 3) % b.length) * 1117 + (q : Int) * 29 + (Q : Int) * 53 := ⟨_, rfl⟩
        have hX0 : 0 ≤ X := by omega
        have hX1 : X < 4611686018427387904 := by omega
        have f8 : wrap64 (Int.tdiv X 64) = X / 64 := by rw [tdiv_nn hX0, w64 (by omega) (by omega)]
        have f9 : wrap64 X = X := w64 (by omega) (by omega)
        have hx := xor_nn hX0 hX1 (b := X / 64) (by omega) (by omega)
        refine ⟨Go.bits .xor .i64 X (X / 64) % n, ?_, Int.emod_nonneg _ (by omega), fun h => Int.emod_lt_of_pos _ (by omega), fun h => absurd h h1⟩
        refine Ev.step (fun k => spec_l20Rd_pick.j0.eq_2 ..) ?_
        simp only [hw2, e1, e2, e3, e4, rdn, f1, f2, f3, f4, f5, f6, f7, ← hX, f9, f8]
        rw [tmod_nn hx]
        simp (disch := omega) only [if_pos, if_neg, w64, rdn, rd0, tn, sc, Option.bind_some, ↓reduceIte, Bool.false_eq_true, Bool.true_eq_false]
        exact Ev.now _

theorem odd_ev (b : List Int) (hb : RdOk b) (p n : Int) (hp : 0 ≤ p) (hp2 : p ≤ 1000000) (hn : n ≤ 1000000) :
    ∃ c p', Ev (fun k => spec_l20Rd_odd.f k b p n) (c, p') ∧ p ≤ p' ∧ p' ≤ p + 1 ∧ (n ≤ 0 → c = false) := by
  unfold spec_l20Rd_odd.f
  by_cases h : n > 0
  · obtain ⟨v, hv, _⟩ := pick_ev b hb p n hp hp2 hn
    refine ⟨v == wrap64 (n - 1), p + 1, ?_, by omega, by omega, fun h' => by omega⟩
    simp (disch := omega) only [if_pos, if_neg, w64, rdn, rd0, tn, sc, Option.bind_some, ↓reduceIte, Bool.false_eq_true, Bool.true_eq_false]
    refine Ev.bind hv ?_
    exact Ev.now _
  · refine ⟨false, p, ?_, by omega, by omega, fun _ => rfl⟩
    simp (disch := omega) only [if_pos, if_neg, w64, rdn, rd0, tn, sc, Option.bind_some, ↓reduceIte, Bool.false_eq_true, Bool.true_eq_false]
    exact Ev.now _

theorem spec_l1In_eq (a b c : Int) : spec_l1In.f a b c = some (decide (b ≤ a ∧ a ≤ c)) := by
  unfold spec_l1In.f
  by_cases h : b ≤ a <;> simp [h]

theorem PathNet_l0 (n : Nat) (h1 : 1 ≤ n) (h6 : n ≤ 6) : ∀ (d i : Nat) (x : List Int), n - i = d → i ≤ n → x.length = i → ∃ r, Ev (fun k => spec_PathNet.l0 k (n : Int) x (i : Int)) r ∧ r.length = n := by
  intro d
  induction d with
  | zero =>
    intro i x hd hi hx
    refine ⟨x, ?_, by omega⟩
    refine Ev.step (fun k => spec_PathNet.l0.eq_2 ..) ?_
    simp (disch := omega) only [if_pos, if_neg, w64, rdn, rd0, tn, sc, Option.bind_some, ↓reduceIte, Bool.false_eq_true, Bool.true_eq_false]
    refine Ev.step (fun k => spec_PathNet.j1.eq_2 ..) ?_
    simp (disch := omega) only [if_pos, if_neg, w64, rdn, rd0, tn, sc, Option.bind_some, ↓reduceIte, Bool.false_eq_true, Bool.true_eq_false]
    exact Ev.now _
  | succ d ih =>
    intro i x hd hi hx
    have e1 : spec_l1In.f (n : Int) 1 6 = some true := by rw [spec_l1In_eq]; simp; omega
    have hw0 : wrap64 ((i : Int) + 1) = ((i + 1 : Nat) : Int) := by rw [w64 (by omega) (by omega)]; rfl
    have next : ∀ v, ∃ r, Ev (fun k => spec_PathNet.l0 k (n : Int) (x ++ [v]) ((i + 1 : Nat) : Int)) r ∧ r.length = n := fun v => ih (i + 1) _ (by omega) (by omega) (by simp [hx])
    by_cases hi0 : 0 < i
    · have hw : wrap64 ((i : Int) - 1) = ((i - 1 : Nat) : Int) := by rw [w64 (by omega) (by omega)]; omega
      by_cases hn : i + 1 < n
      · obtain ⟨r, hr, hl⟩ := next (Go.bits .or .i64 (Go.bits .or .i64 0 (shl .i64 1 ((i - 1 : Nat) : Int))) (shl .i64 1 ((i + 1 : Nat) : Int)))
        refine ⟨r, ?_, hl⟩
        refine Ev.step (fun k => spec_PathNet.l0.eq_2 ..) ?_
        simp (disch := omega) only [if_pos, if_neg, w64, rdn, rd0, tn, sc, Option.bind_some, ↓reduceIte, Bool.false_eq_true, Bool.true_eq_false]
        simp only [e1, Option.bind_some]
        refine Ev.step (fun k => spec_PathNet.j1.eq_2 ..) ?_
        simp only [hw, hw0]
        simp (disch := omega) only [if_pos, if_neg, w64, rdn, rd0, tn, sc, Option.bind_some, ↓reduceIte, Bool.false_eq_true, Bool.true_eq_false]
        exact hr
      · obtain ⟨r, hr, hl⟩ := next (Go.bits .or .i64 0 (shl .i64 1 ((i - 1 : Nat) : Int)))
        refine ⟨r, ?_, hl⟩
        refine Ev.step (fun k => spec_PathNet.l0.eq_2 ..) ?_
        simp (disch := omega) only [if_pos, if_neg, w64, rdn, rd0, tn, sc, Option.bind_some, ↓reduceIte, Bool.false_eq_true, Bool.true_eq_false]
        simp only [e1, Option.bind_some]
        refine Ev.step (fun k => spec_PathNet.j1.eq_2 ..) ?_
        simp only [hw, hw0]
        simp (disch := omega) only [if_pos, if_neg, w64, rdn, rd0, tn, sc, Option.bind_some, ↓reduceIte, Bool.false_eq_true, Bool.true_eq_false]
        exact hr
    · by_cases hn : i + 1 < n
      · obtain ⟨r, hr, hl⟩ := next (Go.bits .or .i64 0 (shl .i64 1 ((i + 1 : Nat) : Int)))
        refine ⟨r, ?_, hl⟩
        refine Ev.step (fun k => spec_PathNet.l0.eq_2 ..) ?_
        simp (disch := omega) only [if_pos, if_neg, w64, rdn, rd0, tn, sc, Option.bind_some, ↓reduceIte, Bool.false_eq_true, Bool.true_eq_false]
        simp only [e1, Option.bind_some]
        refine Ev.step (fun k => spec_PathNet.j1.eq_2 ..) ?_
        simp only [hw0]
        simp (disch := omega) only [if_pos, if_neg, w64, rdn, rd0, tn, sc, Option.bind_some, ↓reduceIte, Bool.false_eq_true, Bool.true_eq_false]
        exact hr
      · obtain ⟨r, hr, hl⟩ := next 0
        refine ⟨r, ?_, hl⟩
        refine Ev.step (fun k => spec_PathNet.l0.eq_2 ..) ?_
        simp (disch := omega) only [if_pos, if_neg, w64, rdn, rd0, tn, sc, Option.bind_some, ↓reduceIte, Bool.false_eq_true, Bool.true_eq_false]
        simp only [e1, Option.bind_some]
        refine Ev.step (fun k => spec_PathNet.j1.eq_2 ..) ?_
        simp only [hw0]
        simp (disch := omega) only [if_pos, if_neg, w64, rdn, rd0, tn, sc, Option.bind_some, ↓reduceIte, Bool.false_eq_true, Bool.true_eq_false]
        exact hr
theorem PathNet_ev (n : Nat) (h1 : 1 ≤ n) (h6 : n ≤ 6) : ∃ r, Ev (fun k => spec_PathNet.f k (n : Int)) r ∧ r.length = n := by
  unfold spec_PathNet.f
  exact PathNet_l0 n h1 h6 _ 0 [] rfl (by omega) rfl

theorem RingNet_l0 (n : Nat) (h1 : 3 ≤ n) (h6 : n ≤ 6) : ∀ (d i : Nat) (x : List Int), n - i = d → i ≤ n → x.length = i → ∃ r, Ev (fun k => spec_RingNet.l0 k (n : Int) x (i : Int)) r ∧ r.length = n := by
  intro d
  induction d with
  | zero =>
    intro i x hd hi hx
    refine ⟨x, ?_, by omega⟩
    refine Ev.step (fun k => spec_RingNet.l0.eq_2 ..) ?_
    simp (disch := omega) only [if_pos, if_neg, w64, rdn, rd0, tn, sc, Option.bind_some, ↓reduceIte, Bool.false_eq_true, Bool.true_eq_false]
    exact Ev.now _
  | succ d ih =>
    intro i x hd hi hx
    have e1 : spec_l1In.f (n : Int) 3 6 = some true := by rw [spec_l1In_eq]; simp; omega
    have hw0 : wrap64 ((i : Int) + 1) = ((i + 1 : Nat) : Int) := by rw [w64 (by omega) (by omega)]; rfl
    have hw1 : wrap64 (wrap64 ((i : Int) + (n : Int)) - 1) = ((i + n - 1 : Nat) : Int) := by
      rw [w64 (n := (i : Int) + (n : Int)) (by omega) (by omega), w64 (by omega) (by omega)]; omega
    have hm0 : Int.tmod ((i + 1 : Nat) : Int) (n : Int) = (((i + 1) % n : Nat) : Int) := by rw [tmod_nn (by omega)]; rfl
    have hm1 : Int.tmod ((i + n - 1 : Nat) : Int) (n : Int) = (((i + n - 1) % n : Nat) : Int) := by rw [tmod_nn (by omega)]; rfl
    obtain ⟨r, hr, hl⟩ := ih (i + 1) (x ++ [Go.bits .or .i64 (shl .i64 1 (((i + 1) % n : Nat) : Int)) (shl .i64 1 (((i + n - 1) % n : Nat) : Int))]) (by omega) (by omega) (by simp [hx])
    refine ⟨r, ?_, hl⟩
    refine Ev.step (fun k => spec_RingNet.l0.eq_2 ..) ?_
    simp only [hw0, hw1, hm0, hm1, e1, Option.bind_some]
    clear hw0 hw1 hm0 hm1 e1
    simp (disch := omega) only [if_pos, if_neg, w64, rdn, rd0, tn, sc, Option.bind_some, ↓reduceIte, Bool.false_eq_true, Bool.true_eq_false]
    exact hr
theorem RingNet_ev (n : Nat) (h1 : 3 ≤ n) (h6 : n ≤ 6) : ∃ r, Ev (fun k => spec_RingNet.f k (n : Int)) r ∧ r.length = n := by
  unfold spec_RingNet.f
  exact RingNet_l0 n h1 h6 _ 0 [] rfl (by omega) rfl

theorem l20Net_l0 (b : List Int) (hb : RdOk b) (n : Int) (hn : n ≤ 1000000) (nodes : Nat) (h1 : 1 ≤ nodes) (h6 : nodes ≤ 6) : ∀ (d : Nat) (x : List Int) (p : Int), x.length = nodes → 0 ≤ p → p ≤ 10000 - 2 * d →
    ∃ r p', Ev (fun k => spec_l20Net.l0 k n (nodes : Int) x (d : Int) b p) (r, p') ∧ p ≤ p' ∧ p' ≤ p + 2 * d + 2 ∧ r.length ≤ 6 := by
  intro d
  induction d with
  | zero =>
    intro x p hx hp hp2
    obtain ⟨c, p1, hc, hc1, hc2, _⟩ := odd_ev b hb p n hp (by omega) hn
    cases c with
    | false =>
      refine ⟨x, p1, ?_, by omega, by omega, by omega⟩
      refine Ev.step (fun k => spec_l20Net.l0.eq_2 ..) ?_
      simp (disch := omega) only [if_pos, if_neg, w64, rdn, rd0, tn, sc, Option.bind_some, ↓reduceIte, Bool.false_eq_true, Bool.true_eq_false]
      refine Ev.bind hc ?_
      simp (disch := omega) only [if_pos, if_neg, w64, rdn, rd0, tn, sc, Option.bind_some, ↓reduceIte, Bool.false_eq_true, Bool.true_eq_false]
      exact Ev.now _
    | true =>
      obtain ⟨v, hv, hv0, hv1, _⟩ := pick_ev b hb p1 3 (by omega) (by omega) (by omega)
      by_cases e0 : v = 0
      · refine ⟨[], p1 + 1, ?_, by omega, by omega, by simp⟩
        refine Ev.step (fun k => spec_l20Net.l0.eq_2 ..) ?_
        simp (disch := omega) only [if_pos, if_neg, w64, rdn, rd0, tn, sc, Option.bind_some, ↓reduceIte, Bool.false_eq_true, Bool.true_eq_false]
        refine Ev.bind hc ?_
        simp (disch := omega) only [if_pos, if_neg, w64, rdn, rd0, tn, sc, Option.bind_some, ↓reduceIte, Bool.false_eq_true, Bool.true_eq_false]
        refine Ev.bind hv ?_
        simp (disch := omega) only [if_pos, if_neg, w64, rdn, rd0, tn, sc, Option.bind_some, ↓reduceIte, Bool.false_eq_true, Bool.true_eq_false]
        exact Ev.now _
      · by_cases e1 : v = 1
        · refine ⟨x.set 0 (Go.bits .or .i64 (G x 0) 1), p1 + 1, ?_, by omega, by omega, by simp; omega⟩
          refine Ev.step (fun k => spec_l20Net.l0.eq_2 ..) ?_
          simp (disch := omega) only [if_pos, if_neg, w64, rdn, rd0, tn, sc, Option.bind_some, ↓reduceIte, Bool.false_eq_true, Bool.true_eq_false]
          refine Ev.bind hc ?_
          simp (disch := omega) only [if_pos, if_neg, w64, rdn, rd0, tn, sc, Option.bind_some, ↓reduceIte, Bool.false_eq_true, Bool.true_eq_false]
          refine Ev.bind hv ?_
          simp (disch := omega) only [if_pos, if_neg, w64, rdn, rd0, tn, sc, Option.bind_some, ↓reduceIte, Bool.false_eq_true, Bool.true_eq_false]
          exact Ev.now _
        · have hw : wrap64 ((nodes : Int) - 1) = (nodes : Int) - 1 := w64 (by omega) (by omega)
          by_cases e2 : nodes = 1
          · refine ⟨(x.set 0 (Go.bits .xor .i64 (G x 0) (shl .i64 1 ((nodes : Int) - 1)))).set 0 (-1), p1 + 1, ?_, by omega, by omega, by simp; omega⟩
            refine Ev.step (fun k => spec_l20Net.l0.eq_2 ..) ?_
            simp only [hw]
            simp (disch := omega) only [if_pos, if_neg, w64, rdn, rd0, tn, sc, Option.bind_some, ↓reduceIte, Bool.false_eq_true, Bool.true_eq_false]
            refine Ev.bind hc ?_
            simp (disch := omega) only [if_pos, if_neg, w64, rdn, rd0, tn, sc, Option.bind_some, ↓reduceIte, Bool.false_eq_true, Bool.true_eq_false]
            refine Ev.bind hv ?_
            simp (disch := omega) only [if_pos, if_neg, w64, rdn, rd0, tn, sc, Option.bind_some, ↓reduceIte, Bool.false_eq_true, Bool.true_eq_false]
            exact Ev.now _
          · refine ⟨x.set 0 (Go.bits .xor .i64 (G x 0) (shl .i64 1 ((nodes : Int) - 1))), p1 + 1, ?_, by omega, by omega, by simp; omega⟩
            refine Ev.step (fun k => spec_l20Net.l0.eq_2 ..) ?_
            simp only [hw]
            simp (disch := omega) only [if_pos, if_neg, w64, rdn, rd0, tn, sc, Option.bind_some, ↓reduceIte, Bool.false_eq_true, Bool.true_eq_false]
            refine Ev.bind hc ?_
            simp (disch := omega) only [if_pos, if_neg, w64, rdn, rd0, tn, sc, Option.bind_some, ↓reduceIte, Bool.false_eq_true, Bool.true_eq_false]
            refine Ev.bind hv ?_
            simp (disch := omega) only [if_pos, if_neg, w64, rdn, rd0, tn, sc, Option.bind_some, ↓reduceIte, Bool.false_eq_true, Bool.true_eq_false]
            exact Ev.now _
  | succ d ih =>
    intro x p hx hp hp2
    obtain ⟨v, hv, hv0, hv1, _⟩ := pick_ev b hb p (nodes : Int) hp (by omega) (by omega)
    obtain ⟨u, hu, hu0, hu1, _⟩ := pick_ev b hb (p + 1) (nodes : Int) (by omega) (by omega) (by omega)
    have hw : wrap64 (((d + 1 : Nat) : Int) - 1) = (d : Int) := by rw [w64 (by omega) (by omega)]; omega
    obtain ⟨i, rfl⟩ := Int.eq_ofNat_of_zero_le hv0
    obtain ⟨j, rfl⟩ := Int.eq_ofNat_of_zero_le hu0
    by_cases e : i = j
    · obtain ⟨r, p', hr, h2, h3, h4⟩ := ih x (p + 1 + 1) hx (by omega) (by omega)
      refine ⟨r, p', ?_, by omega, by omega, h4⟩
      refine Ev.step (fun k => spec_l20Net.l0.eq_2 ..) ?_
      simp only [hw]
      simp (disch := omega) only [if_pos, if_neg, w64, rdn, rd0, tn, sc, Option.bind_some, ↓reduceIte, Bool.false_eq_true, Bool.true_eq_false]
      refine Ev.bind hv ?_
      refine Ev.bind hu ?_
      simp (disch := omega) only [if_pos, if_neg, w64, rdn, rd0, tn, sc, Option.bind_some, ↓reduceIte, Bool.false_eq_true, Bool.true_eq_false]
      exact hr
    · obtain ⟨r, p', hr, h2, h3, h4⟩ := ih ((x.set i (Go.bits .or .i64 (G x i) (shl .i64 1 (j : Int)))).set j (Go.bits .or .i64 (G (x.set i (Go.bits .or .i64 (G x i) (shl .i64 1 (j : Int)))) j) (shl .i64 1 (i : Int)))) (p + 1 + 1) (by simp [hx]) (by omega) (by omega)
      refine ⟨r, p', ?_, by omega, by omega, h4⟩
      refine Ev.step (fun k => spec_l20Net.l0.eq_2 ..) ?_
      simp only [hw]
      simp (disch := omega) only [if_pos, if_neg, w64, rdn, rd0, tn, sc, Option.bind_some, ↓reduceIte, Bool.false_eq_true, Bool.true_eq_false]
      refine Ev.bind hv ?_
      refine Ev.bind hu ?_
      simp only [List.length_set]
      simp (disch := omega) only [if_pos, if_neg, w64, rdn, rd0, tn, sc, Option.bind_some, ↓reduceIte, Bool.false_eq_true, Bool.true_eq_false]
      exact hr
theorem l20Net_ev (b : List Int) (hb : RdOk b) (n p : Int) (hn : n ≤ 1000000) (hp : 0 ≤ p) (hp2 : p ≤ 9000) :
    ∃ r p', Ev (fun k => spec_l20Net.f k b p n) (r, p') ∧ p ≤ p' ∧ p' ≤ p + 20 ∧ r.length ≤ 6 := by
  obtain ⟨v, hv, hv0, hv1, _⟩ := pick_ev b hb p 6 hp (by omega) (by omega)
  obtain ⟨m, rfl⟩ := Int.eq_ofNat_of_zero_le hv0
  have hw : wrap64 (1 + (m : Int)) = ((1 + m : Nat) : Int) := by rw [w64 (by omega) (by omega)]; omega
  obtain ⟨x, hx, hxl⟩ := PathNet_ev (1 + m) (by omega) (by omega)
  obtain ⟨u, hu, hu0, hu1, _⟩ := pick_ev b hb (p + 1) 4 (by omega) (by omega) (by omega)
  have next : ∀ y : List Int, y.length = 1 + m → ∃ r p', Ev (fun k => spec_l20Net.j0 k n ((1 + m : Nat) : Int) y b (p + 1 + 1)) (r, p') ∧ p ≤ p' ∧ p' ≤ p + 20 ∧ r.length ≤ 6 := by
    intro y hy
    obtain ⟨t, ht, ht0, ht1, _⟩ := pick_ev b hb (p + 1 + 1) 6 (by omega) (by omega) (by omega)
    obtain ⟨q, rfl⟩ := Int.eq_ofNat_of_zero_le ht0
    obtain ⟨r, p', hr, h2, h3, h4⟩ := l20Net_l0 b hb n hn (1 + m) (by omega) (by omega) q y (p + 1 + 1 + 1) hy (by omega) (by omega)
    refine ⟨r, p', ?_, by omega, by omega, h4⟩
    refine Ev.step (fun k => spec_l20Net.j0.eq_2 ..) ?_
    refine Ev.bind ht ?_
    exact hr
  by_cases e0 : u = 0
  · by_cases e3 : 3 ≤ 1 + m
    · obtain ⟨y, hy, hyl⟩ := RingNet_ev (1 + m) e3 (by omega)
      obtain ⟨r, p', hr, h⟩ := next y hyl
      refine ⟨r, p', ?_, h⟩
      unfold spec_l20Net.f
      refine Ev.bind hv ?_
      simp only [hw]
      refine Ev.bind hx ?_
      refine Ev.bind hu ?_
      simp (disch := omega) only [if_pos, if_neg, w64, rdn, rd0, tn, sc, Option.bind_some, ↓reduceIte, Bool.false_eq_true, Bool.true_eq_false]
      refine Ev.bind hy ?_
      exact hr
    · obtain ⟨r, p', hr, h⟩ := next x hxl
      refine ⟨r, p', ?_, h⟩
      unfold spec_l20Net.f
      refine Ev.bind hv ?_
      simp only [hw]
      refine Ev.bind hx ?_
      refine Ev.bind hu ?_
      simp (disch := omega) only [if_pos, if_neg, w64, rdn, rd0, tn, sc, Option.bind_some, ↓reduceIte, Bool.false_eq_true, Bool.true_eq_false]
      exact hr
  · by_cases e1 : u = 1
    · obtain ⟨r, p', hr, h⟩ := next (List.replicate (1 + m) 0) (by simp)
      refine ⟨r, p', ?_, h⟩
      unfold spec_l20Net.f
      refine Ev.bind hv ?_
      simp only [hw]
      refine Ev.bind hx ?_
      refine Ev.bind hu ?_
      simp (disch := omega) only [if_pos, if_neg, w64, rdn, rd0, tn, sc, Option.bind_some, ↓reduceIte, Bool.false_eq_true, Bool.true_eq_false]
      exact hr
    · obtain ⟨r, p', hr, h⟩ := next x hxl
      refine ⟨r, p', ?_, h⟩
      unfold spec_l20Net.f
      refine Ev.bind hv ?_
      simp only [hw]
      refine Ev.bind hx ?_
      refine Ev.bind hu ?_
      simp (disch := omega) only [if_pos, if_neg, w64, rdn, rd0, tn, sc, Option.bind_some, ↓reduceIte, Bool.false_eq_true, Bool.true_eq_false]
      exact hr

theorem l20Set_ev (b : List Int) (hb : RdOk b) (n p : Int) (hn : n ≤ 1000) (hp : 0 ≤ p) (hp2 : p ≤ 1000) :
    ∃ net set p', Ev (fun k => spec_l20Set.f k b p n) (net, set, p') ∧ p ≤ p' ∧ p' ≤ p + 40 ∧ net.length ≤ 6 := by
  obtain ⟨net, p1, h1, h1a, h1b, h1c⟩ := l20Net_ev b hb n p (by omega) hp (by omega)
  have hs : shl .i64 1 (net.length : Int) = 2 ^ net.length := shl1 (by omega)
  have hs2 : (2 : Int) ^ net.length ≤ 64 := by
    have : (2 : Nat) ^ net.length ≤ 2 ^ 6 := Nat.pow_le_pow_right (by decide) h1c
    rw [two_pow_cast]; omega
  obtain ⟨u, h2, _⟩ := pick_ev b hb p1 (2 ^ net.length) (by omega) (by omega) (by omega)
  obtain ⟨v, h3, _⟩ := pick_ev b hb (p1 + 1) (2 ^ net.length) (by omega) (by omega) (by omega)
  obtain ⟨x, h4, _⟩ := pick_ev b hb (p1 + 1 + 1) 40 (by omega) (by omega) (by omega)
  refine ⟨net, wrap64 ((Go.bits .and .i64 u v) + (wrap64 ((wrap64 (Int.tdiv x 39)) * 64))), p1 + 1 + 1 + 1, ?_, by omega, by omega, h1c⟩
  unfold spec_l20Set.f
  refine Ev.bind h1 ?_
  simp only [hs]
  refine Ev.bind h2 ?_
  refine Ev.bind h3 ?_
  refine Ev.bind h4 ?_
  exact Ev.now _

theorem l20Wave_ev (b : List Int) (hb : RdOk b) (p : Int) (hp : 0 ≤ p) (hp2 : p ≤ 100) :
    ∃ net kinds set p', Ev (fun k => spec_l20Wave.f k b p) (net, kinds, set, p') ∧ net.length ≤ 6 := by
  obtain ⟨net, set, p1, h1, h1a, h1b, h1c⟩ := l20Set_ev b hb 14 p (by omega) hp (by omega)
  obtain ⟨u, h2, _⟩ := pick_ev b hb p1 3 (by omega) (by omega) (by omega)
  obtain ⟨v, h3, _⟩ := pick_ev b hb (p1 + 1) 40 (by omega) (by omega) (by omega)
  refine ⟨net, wrap64 ((wrap64 (3 + u)) + (wrap64 ((wrap64 (Int.tdiv v 39)) * 3))), set, p1 + 1 + 1, ?_, h1c⟩
  unfold spec_l20Wave.f
  refine Ev.bind h1 ?_
  refine Ev.bind h2 ?_
  refine Ev.bind h3 ?_
  exact Ev.now _

theorem DrawWaveEnd_ev (l : List Int) (h : ∀ x ∈ l, (Lit.int .u8 x).wf = true) : ∃ net kinds set, Ev (fun k => spec_DrawWaveEnd.f k l) (net, kinds, set) ∧ net.length ≤ 6 := by
  obtain ⟨b, hb, hR⟩ := spec_l20Open_eq l h
  obtain ⟨net, kinds, set, p, h1, h2⟩ := l20Wave_ev b hR 0 (by omega) (by omega)
  refine ⟨net, kinds, set, ?_, h2⟩
  unfold spec_DrawWaveEnd.f
  rw [hb]
  simp only [Option.bind_some]
  refine Ev.bind h1 ?_
  exact Ev.now _

theorem impl_StateOk_l0 (a : Int) (l : List Int) (hl : l.length ≤ 1048576) : ∀ (d : Nat) (i : Nat), l.length - i = d → i ≤ l.length → (∀ j, j < i → 0 ≤ G l j ∧ G l j < a) → Ev (fun k => impl_StateOk.l0 k a l l (l.length : Int) (i : Int)) (decide (StateP a l)) := by
  intro d
  induction d with
  | zero =>
    intro i hd hi hj
    refine Ev.step (fun k => impl_StateOk.l0.eq_2 ..) ?_
    obtain rfl : i = l.length := by omega
    by_cases h3 : 3 ≤ a
    · by_cases h5 : a ≤ 5
      · by_cases h1 : 1 ≤ l.length
        · simp (disch := omega) only [if_pos, if_neg, w64, rdn, rd0, tn, sc, Option.bind_some, ↓reduceIte, Bool.false_eq_true, Bool.true_eq_false]
          refine Ev.val ?_
          rw [decide_eq_decide]
          unfold StateP
          constructor
          · intro e; exact ⟨h3, h5, h1, by omega, hj⟩
          · intro e; have := e.2.2.2.1; omega
        · simp (disch := omega) only [if_pos, if_neg, w64, rdn, rd0, tn, sc, Option.bind_some, ↓reduceIte, Bool.false_eq_true, Bool.true_eq_false]
          refine Ev.val ?_
          have : ¬ StateP a l := fun p => h1 p.2.2.1
          simp [this]
      · simp (disch := omega) only [if_pos, if_neg, w64, rdn, rd0, tn, sc, Option.bind_some, ↓reduceIte, Bool.false_eq_true, Bool.true_eq_false]
        refine Ev.val ?_
        have : ¬ StateP a l := fun p => h5 p.2.1
        simp [this]
    · simp (disch := omega) only [if_pos, if_neg, w64, rdn, rd0, tn, sc, Option.bind_some, ↓reduceIte, Bool.false_eq_true, Bool.true_eq_false]
      refine Ev.val ?_
      have : ¬ StateP a l := fun p => h3 p.1
      simp [this]
  | succ d ih =>
    intro i hd hi hj
    refine Ev.step (fun k => impl_StateOk.l0.eq_2 ..) ?_
    by_cases e0 : G l i < 0
    · simp (disch := omega) only [if_pos, if_neg, w64, rdn, rd0, tn, sc, Option.bind_some, ↓reduceIte, Bool.false_eq_true, Bool.true_eq_false]
      refine Ev.val ?_
      have : ¬ StateP a l := fun p => by have := p.2.2.2.2 i (by omega); omega
      simp [this]
    · by_cases e1 : G l i ≥ a
      · simp (disch := omega) only [if_pos, if_neg, w64, rdn, rd0, tn, sc, Option.bind_some, ↓reduceIte, Bool.false_eq_true, Bool.true_eq_false]
        refine Ev.val ?_
        have : ¬ StateP a l := fun p => by have := p.2.2.2.2 i (by omega); omega
        simp [this]
      · simp (disch := omega) only [if_pos, if_neg, w64, rdn, rd0, tn, sc, Option.bind_some, ↓reduceIte, Bool.false_eq_true, Bool.true_eq_false]
        refine ih (i + 1) (by omega) (by omega) ?_
        intro j hji
        by_cases e' : j = i
        · subst e'; omega
        · exact hj j (by omega)
theorem impl_StateOk_ev (a : Int) (l : List Int) (hl : l.length ≤ 1048576) : Ev (fun k => impl_StateOk.f k a l) (decide (StateP a l)) := by
  unfold impl_StateOk.f
  exact impl_StateOk_l0 a l hl _ 0 rfl (by omega) (fun j h => by omega)

theorem impl_asked_ev (net s : List Int) (kinds : Int) (hn : net.length ≤ 1048576) (hs : s.length ≤ 1048576) : Ev (fun k => impl_asked.f k net kinds s) (decide (Asked net kinds s)) := by
  unfold impl_asked.f
  refine Ev.bind (impl_NetOk_ev net hn) ?_
  by_cases h1 : NetP net
  · simp only [h1, decide_true]
    simp (disch := omega) only [if_pos, if_neg, w64, rdn, rd0, tn, sc, Option.bind_some, ↓reduceIte, Bool.false_eq_true, Bool.true_eq_false]
    refine Ev.bind (impl_StateOk_ev kinds s hs) ?_
    by_cases h2 : StateP kinds s
    · simp only [h2, decide_true]
      simp (disch := omega) only [if_pos, if_neg, w64, rdn, rd0, tn, sc, Option.bind_some, ↓reduceIte, Bool.false_eq_true, Bool.true_eq_false]
      refine Ev.val ?_
      rw [Bool.eq_iff_iff, beq_iff_eq, decide_eq_true_eq]
      unfold Asked
      constructor
      · intro h; exact ⟨h1, h2, by omega⟩
      · intro h; have := h.2.2; omega
    · simp only [h2, decide_false]
      simp (disch := omega) only [if_pos, if_neg, w64, rdn, rd0, tn, sc, Option.bind_some, ↓reduceIte, Bool.false_eq_true, Bool.true_eq_false]
      have : ¬ Asked net kinds s := fun h => h2 h.2.1
      exact Ev.val (by simp [this])
  · simp only [h1, decide_false]
    simp (disch := omega) only [if_pos, if_neg, w64, rdn, rd0, tn, sc, Option.bind_some, ↓reduceIte, Bool.false_eq_true, Bool.true_eq_false]
    have : ¬ Asked net kinds s := fun h => h1 h.1
    exact Ev.val (by simp [this])

-- needs Fire
def FiresTo (net s : List Int) (i n : Nat) : Prop := ∃ j, j < n ∧ adj net i j ∧ G s j = 1
theorem firesTo_succ {net s : List Int} {i n : Nat} : FiresTo net s i (n + 1) ↔ FiresTo net s i n ∨ (adj net i n ∧ G s n = 1) := by
  constructor
  · rintro ⟨j, hj, h⟩
    by_cases e : j = n
    · subst e; exact Or.inr h
    · exact Or.inl ⟨j, by omega, h⟩
  · rintro (⟨j, hj, h⟩ | h)
    · exact ⟨j, by omega, h⟩
    · exact ⟨n, by omega, h⟩
theorem firesTo_all {net s : List Int} {i : Nat} : FiresTo net s i s.length ↔ Fires net s i := Iff.rfl
def fireK (net : List Int) (kinds : Int) (s : List Int) (i : Nat) : Int := if 0 < G s i then (G s i + 1) % kinds else if Fires net s i then 1 else 0
theorem impl_needStep_l1 (net : List Int) (kinds : Int) (s : List Int) (h : Asked net kinds s) (i : Nat) (hi : i < s.length) (r x : List Int) (hz : ¬ 0 < G s i) (hx : x.length = s.length) (hx0 : G x i = 0)
    (hend : ∀ y : List Int, y.length = s.length → G y i = fireK net kinds s i → (∀ p, p ≠ i → G y p = G x p) → Ev (fun k => impl_needStep.l0 k net kinds s y s (s.length : Int) ((i + 1 : Nat) : Int)) r) :
    ∀ (d j c : Nat), s.length - j = d → j ≤ s.length → c ≤ j → (0 < c ↔ FiresTo net s i j) →
      Ev (fun k => impl_needStep.l1 k net kinds s x (i : Int) (c : Int) 1 s (s.length : Int) (i : Int) s (s.length : Int) (j : Int)) r := by
  intro d
  have h6 := asked6 h
  have hl := h.2.2
  induction d with
  | zero =>
    intro j c hd hj hcj hc
    refine Ev.step (fun k => impl_needStep.l1.eq_2 ..) ?_
    have ej : j = s.length := by omega
    subst ej
    by_cases e : 0 < c
    · have hf := firesTo_all.1 (hc.1 e)
      clear hc
      simp (disch := omega) only [if_pos, if_neg, w64, rdn, rd0, tn, sc, Option.bind_some, ↓reduceIte, Bool.false_eq_true, Bool.true_eq_false]
      refine hend _ (by simp [hx]) ?_ (fun p hp => G_set_ne _ hp)
      rw [G_set_self _ (by omega)]
      unfold fireK
      rw [if_neg hz, if_pos hf]
    · have hf : ¬ Fires net s i := fun g => e (hc.2 (firesTo_all.2 g))
      clear hc
      simp (disch := omega) only [if_pos, if_neg, w64, rdn, rd0, tn, sc, Option.bind_some, ↓reduceIte, Bool.false_eq_true, Bool.true_eq_false]
      refine hend _ hx ?_ (fun p hp => rfl)
      unfold fireK
      rw [if_neg hz, if_neg hf, hx0]
  | succ d ih =>
    intro j c hd hj hcj hc
    refine Ev.step (fun k => impl_needStep.l1.eq_2 ..) ?_
    have hb := bit_and (G net i) (j := j) (by omega)
    simp only [rdn, hb]
    clear hb
    by_cases e1 : G net i / 2 ^ j % 2 = 1
    · by_cases e2 : G s j = 1
      · have hn := ih (j + 1) (c + 1) (by omega) (by omega) (by omega) (by rw [firesTo_succ]; exact ⟨fun _ => Or.inr ⟨e1, e2⟩, fun _ => by omega⟩)
        clear hc
        simp (disch := omega) only [if_pos, if_neg, w64, rdn, rd0, tn, sc, Option.bind_some, ↓reduceIte, Bool.false_eq_true, Bool.true_eq_false]
        exact hn
      · have hn := ih (j + 1) c (by omega) (by omega) (by omega) (by rw [firesTo_succ, hc]; exact ⟨Or.inl, fun g => g.elim id (fun g => absurd g.2 e2)⟩)
        clear hc
        simp (disch := omega) only [if_pos, if_neg, w64, rdn, rd0, tn, sc, Option.bind_some, ↓reduceIte, Bool.false_eq_true, Bool.true_eq_false]
        exact hn
    · have hn := ih (j + 1) c (by omega) (by omega) (by omega) (by rw [firesTo_succ, hc]; exact ⟨Or.inl, fun g => g.elim id (fun g => absurd g.1 e1)⟩)
      clear hc
      simp (disch := omega) only [if_pos, if_neg, w64, rdn, rd0, tn, sc, Option.bind_some, ↓reduceIte, Bool.false_eq_true, Bool.true_eq_false]
      exact hn
theorem impl_needStep_l0 (net : List Int) (kinds : Int) (s : List Int) (h : Asked net kinds s) : ∀ (d i : Nat) (x : List Int), s.length - i = d → i ≤ s.length → x.length = s.length →
    (∀ p, p < s.length → G x p = if p < i then fireK net kinds s p else 0) →
    Ev (fun k => impl_needStep.l0 k net kinds s x s (s.length : Int) (i : Int)) (fire net kinds s) := by
  intro d
  have h6 := asked6 h
  have hk3 := h.2.1.1
  have hk5 := h.2.1.2.1
  induction d with
  | zero =>
    intro i x hd hi hx hp
    refine Ev.step (fun k => impl_needStep.l0.eq_2 ..) ?_
    have ei : i = s.length := by omega
    simp (disch := omega) only [if_pos, if_neg, w64, rdn, rd0, tn, sc, Option.bind_some, ↓reduceIte, Bool.false_eq_true, Bool.true_eq_false]
    refine Ev.val (mk_eq_iff.2 ⟨hx, fun p hpl => ?_⟩)
    rw [hp p hpl, if_pos (by omega)]
    rfl
  | succ d ih =>
    intro i x hd hi hx hp
    refine Ev.step (fun k => impl_needStep.l0.eq_2 ..) ?_
    have hbd := h.2.1.2.2.2.2 i (by omega)
    have e1 : Int.tmod (wrap64 (G s i + 1)) kinds = (G s i + 1) % kinds := by rw [w64 (by omega) (by omega), tmod_nn (by omega)]
    simp only [rdn, e1]
    clear e1
    by_cases e : G s i > 0
    · have hn := ih (i + 1) (x.set i ((G s i + 1) % kinds)) (by omega) (by omega) (by simp [hx]) (fun p hpl => by
        by_cases ep : p = i
        · subst ep; rw [G_set_self _ (by omega), if_pos (by omega)]; unfold fireK; rw [if_pos e]
        · rw [G_set_ne _ ep, hp p hpl]
          by_cases g : p < i
          · rw [if_pos g, if_pos (by omega)]
          · rw [if_neg g, if_neg (by omega)])
      simp (disch := omega) only [if_pos, if_neg, w64, rdn, rd0, tn, sc, Option.bind_some, ↓reduceIte, Bool.false_eq_true, Bool.true_eq_false]
      exact hn
    · have hx0 := hp i (by omega)
      rw [if_neg (by omega)] at hx0
      have hn := impl_needStep_l1 net kinds s h i (by omega) (fire net kinds s) x (by omega) hx hx0 (fun y hy h1 h2 => ih (i + 1) y (by omega) (by omega) hy (fun p hpl => by
        by_cases ep : p = i
        · subst ep; rw [h1, if_pos (by omega)]
        · rw [h2 p ep, hp p hpl]
          by_cases g : p < i
          · rw [if_pos g, if_pos (by omega)]
          · rw [if_neg g, if_neg (by omega)])) _ 0 0 rfl (by omega) (by omega) ⟨fun g => by omega, fun ⟨q, hq, _⟩ => by omega⟩
      simp (disch := omega) only [if_pos, if_neg, w64, rdn, rd0, tn, sc, Option.bind_some, ↓reduceIte, Bool.false_eq_true, Bool.true_eq_false]
      exact hn
theorem impl_needStep_ev (net : List Int) (kinds : Int) (s : List Int) (h : Asked net kinds s) : Ev (fun k => impl_needStep.f k net kinds [] s) (fire net kinds s) := by
  unfold impl_needStep.f
  have h6 := asked6 h
  have h1 := asked1 h
  simp (disch := omega) only [if_pos, if_neg, w64, rdn, rd0, tn, sc, Option.bind_some, ↓reduceIte, Bool.false_eq_true, Bool.true_eq_false]
  exact impl_needStep_l0 net kinds s h _ 0 _ rfl (by omega) (by simp) (fun p hp => by rw [if_neg (by omega), replicate_mk, G_mk _ hp])

-- needs Stand
theorem numS_drop (q : Nat) {s : List Int} {d : Nat} (h : d < s.length) : numS q (s.drop d) = numS q (s.drop (d + 1)) * q + (G s d).toNat := by
  rw [List.drop_eq_getElem_cons h, G_of_lt h]; rfl
theorem numS_drop_lt {kinds : Int} {s : List Int} (h : StateP kinds s) (d : Nat) : numS kinds.toNat (s.drop d) < 15625 := by
  have h3 := h.1
  have h5 := h.2.1
  have h6 := h.2.2.2.1
  have h1 := numS_lt kinds.toNat (s.drop d) (fun i hi => by
    rw [List.length_drop] at hi
    have := h.2.2.2.2 (d + i) (by omega)
    rw [G_drop]; omega)
  have h2 : kinds.toNat ^ (s.drop d).length ≤ 5 ^ 6 := Nat.le_trans (Nat.pow_le_pow_right (by omega) (by rw [List.length_drop]; omega)) (Nat.pow_le_pow_left (by omega) 6)
  have h4 : (5 : Nat) ^ 6 = 15625 := by decide
  omega
theorem impl_NumberOf_l0 (kinds : Int) (s : List Int) (h : StateP kinds s) : ∀ (d : Nat) (x6 : Int), d ≤ s.length → x6 = (d : Int) - 1 →
    Ev (fun k => impl_NumberOf.l0 k kinds s ((numS kinds.toNat (s.drop d) : Nat) : Int) x6) ((numS kinds.toNat s : Nat) : Int) := by
  intro d
  have h3 := h.1
  have h5 := h.2.1
  have h6 := h.2.2.2.1
  induction d with
  | zero =>
    intro x6 hd hx
    refine Ev.step (fun k => impl_NumberOf.l0.eq_2 ..) ?_
    simp (disch := omega) only [if_pos, if_neg, w64, rdn, rd0, tn, sc, Option.bind_some, ↓reduceIte, Bool.false_eq_true, Bool.true_eq_false]
    rw [List.drop_zero]
    exact Ev.now _
  | succ d ih =>
    intro x6 hd hx
    obtain rfl : x6 = (d : Int) := by omega
    clear hx
    refine Ev.step (fun k => impl_NumberOf.l0.eq_2 ..) ?_
    have hb := h.2.2.2.2 d (by omega)
    have hlt := numS_drop_lt h (d + 1)
    have hlt2 := numS_drop_lt h d
    have hd2 := numS_drop kinds.toNat (show d < s.length by omega)
    have hk : ((kinds.toNat : Nat) : Int) = kinds := by omega
    have e1 : ((numS kinds.toNat (s.drop (d + 1)) : Nat) : Int) * kinds = ((numS kinds.toNat (s.drop (d + 1)) * kinds.toNat : Nat) : Int) := by rw [Int.natCast_mul, hk]
    have e2 : wrap64 (wrap64 (((numS kinds.toNat (s.drop (d + 1)) : Nat) : Int) * kinds) + G s d) = ((numS kinds.toNat (s.drop d) : Nat) : Int) := by
      rw [e1, w64 (n := ((numS kinds.toNat (s.drop (d + 1)) * kinds.toNat : Nat) : Int)) (by omega) (by omega), w64 (by omega) (by omega)]
      omega
    have e3 : wrap64 ((d : Int) - 1) = (d : Int) - 1 := w64 (by omega) (by omega)
    have hn := ih ((d : Int) - 1) (by omega) rfl
    simp only [rdn, e2, e3]
    clear e1 e2 e3 hd2 hlt hlt2
    simp (disch := omega) only [if_pos, if_neg, w64, rdn, rd0, tn, sc, Option.bind_some, ↓reduceIte, Bool.false_eq_true, Bool.true_eq_false]
    exact hn
theorem impl_NumberOf_ev (kinds : Int) (s : List Int) (h : StateP kinds s) : Ev (fun k => impl_NumberOf.f k kinds s) ((numS kinds.toNat s : Nat) : Int) := by
  unfold impl_NumberOf.f
  have h6 := h.2.2.2.1
  refine Ev.bind (impl_StateOk_ev kinds s (by omega)) ?_
  simp only [h, decide_true, if_true]
  have e : wrap64 ((s.length : Int) - 1) = (s.length : Int) - 1 := w64 (by omega) (by omega)
  simp only [e]
  have := impl_NumberOf_l0 kinds s h s.length ((s.length : Int) - 1) (Nat.le_refl _) rfl
  rw [List.drop_length] at this
  exact this

-- needs Stand
theorem hitB_iff {num : Nat → Int} {v : Int} : ∀ n, impl_EndsAt.hitB (seenOf num n) v = true ↔ ∃ i, i < n ∧ num i = v
  | 0 => ⟨fun h => by simp [seenOf, impl_EndsAt.hitB] at h, fun ⟨i, hi, _⟩ => by omega⟩
  | n + 1 => by
    unfold seenOf impl_EndsAt.hitB
    by_cases e : v = num n
    · rw [if_pos e]
      exact ⟨fun _ => ⟨n, by omega, e.symm⟩, fun _ => rfl⟩
    · rw [if_neg e, hitB_iff n]
      constructor
      · rintro ⟨i, hi, h⟩; exact ⟨i, by omega, h⟩
      · rintro ⟨i, hi, h⟩
        by_cases g : i = n
        · subst g; exact absurd h.symm e
        · exact ⟨i, by omega, h⟩
theorem fire_num_inj {net s : List Int} {kinds : Int} (h : Asked net kinds s) {i j : Nat} (e : ((numS kinds.toNat (fireN net kinds s i) : Nat) : Int) = ((numS kinds.toNat (fireN net kinds s j) : Nat) : Int)) : fireN net kinds s i = fireN net kinds s j :=
  numS_state_inj (fireN_ok h i).2.1 (fireN_ok h j).2.1 (by rw [fireN_length, fireN_length]) (by omega)
theorem impl_EndsAt_step (net s : List Int) (kinds : Int) (h : Asked net kinds s) (n : Nat) (hn : n ≤ 20000) (r : Int)
    (h0 : AtRest (fireN net kinds s n) → r = (n : Int)) (h1 : ¬ AtRest (fireN net kinds s n) → (∃ i, i < n ∧ fireN net kinds s i = fireN net kinds s n) → r = -1)
    (h2 : ¬ AtRest (fireN net kinds s n) → (¬ ∃ i, i < n ∧ fireN net kinds s i = fireN net kinds s n) → Ev (fun k => impl_EndsAt.l0 k net kinds (fireN net kinds s (n + 1)) (seenOf (fun i => ((numS kinds.toNat (fireN net kinds s i) : Nat) : Int)) (n + 1))) r) :
    Ev (fun k => impl_EndsAt.l0 k net kinds (fireN net kinds s n) (seenOf (fun i => ((numS kinds.toNat (fireN net kinds s i) : Nat) : Int)) n)) r := by
  have hA := fireN_ok h n
  have hlt := numS_bound hA.2.1
  have hr := numS_state_rest hA.2.1.1 hA.2.1.2.2.2.2
  refine Ev.step (fun k => impl_EndsAt.l0.eq_2 ..) ?_
  refine Ev.bind (impl_NumberOf_ev kinds _ hA.2.1) ?_
  by_cases e : ((numS kinds.toNat (fireN net kinds s n) : Nat) : Int) = 0
  · have := h0 (hr.1 (by omega))
    simp only [e, if_true, seenOf_length]
    rw [this]
    exact Ev.now _
  · have hnr : ¬ AtRest (fireN net kinds s n) := fun g => e (by have := hr.2 g; omega)
    have hwf : (Lit.int .i64 ((numS kinds.toNat (fireN net kinds s n) : Nat) : Int)).wf = true := wf_i64.2 ⟨by omega, by omega⟩
    have hh := hitB_iff (num := fun i => ((numS kinds.toNat (fireN net kinds s i) : Nat) : Int)) (v := ((numS kinds.toNat (fireN net kinds s n) : Nat) : Int)) n
    simp only [e, if_false, hwf, if_true]
    cases hb : impl_EndsAt.hitB (seenOf (fun i => ((numS kinds.toNat (fireN net kinds s i) : Nat) : Int)) n) ((numS kinds.toNat (fireN net kinds s n) : Nat) : Int) with
    | true =>
      obtain ⟨i, hi, hx⟩ := hh.1 hb
      have := h1 hnr ⟨i, hi, fire_num_inj h hx⟩
      simp only [if_true]
      rw [this]
      exact Ev.now _
    | false =>
      have hno : ¬ ∃ i, i < n ∧ fireN net kinds s i = fireN net kinds s n := fun ⟨i, hi, hx⟩ => by
        have := hh.2 ⟨i, hi, by simp only [hx]⟩
        rw [hb] at this; cases this
      simp only [Bool.false_eq_true, if_false, seenOf_length]
      simp only [show n < 1000000 by omega, if_true]
      refine Ev.bind (impl_needStep_ev net kinds _ hA) ?_
      exact h2 hnr hno
theorem impl_EndsAt_ev (net s : List Int) (kinds : Int) (hn : net.length ≤ 1048576) (hs : s.length ≤ 1048576) : Ev (fun k => impl_EndsAt.f k net kinds s) (endsAt net kinds s) := by
  unfold impl_EndsAt.f
  refine Ev.bind (impl_asked_ev net s kinds hn hs) ?_
  by_cases h : Asked net kinds s
  · simp only [h, decide_true, if_true]
    obtain ⟨b, L, hl, hbl⟩ := fire_loop_exists h
    have hL1 := hl.1
    by_cases hx : ∃ t, EndsP net kinds s t
    · obtain ⟨t, ht⟩ := hx
      rw [endsAt_eq h ht]
      have hlt := ends_loop ht
      have htb := isLoop_unique hl hlt
      have key : ∀ d n, t - n = d → n ≤ t → Ev (fun k => impl_EndsAt.l0 k net kinds (fireN net kinds s n) (seenOf (fun i => ((numS kinds.toNat (fireN net kinds s i) : Nat) : Int)) n)) (t : Int) := by
        intro d
        induction d with
        | zero =>
          intro n hd hn
          have e : n = t := by omega
          subst e
          exact impl_EndsAt_step net s kinds h n (by omega) _ (fun _ => rfl) (fun g => absurd ht.1 g) (fun g => absurd ht.1 g)
        | succ d ih =>
          intro n hd hn
          refine impl_EndsAt_step net s kinds h n (by omega) _ (fun g => absurd g (ht.2 n (by omega))) (fun _ ⟨i, hi, hx⟩ => absurd hx (hlt.2.2 i n hi (by omega))) (fun _ _ => ih (n + 1) (by omega) (by omega))
      exact key _ 0 rfl (by omega)
    · rw [endsAt_no (fun x => hx x.2)]
      have hnr : ∀ n, ¬ AtRest (fireN net kinds s n) := fun n g => by
        obtain ⟨u, _, hu⟩ := ends_of_rest n g
        exact hx ⟨u, hu⟩
      have key : ∀ d n, b + L - n = d → n ≤ b + L → Ev (fun k => impl_EndsAt.l0 k net kinds (fireN net kinds s n) (seenOf (fun i => ((numS kinds.toNat (fireN net kinds s i) : Nat) : Int)) n)) (-1 : Int) := by
        intro d
        induction d with
        | zero =>
          intro n hd hn
          have e : n = b + L := by omega
          subst e
          exact impl_EndsAt_step net s kinds h (b + L) (by omega) _ (fun g => absurd g (hnr _)) (fun _ _ => rfl) (fun _ g => absurd ⟨b, by omega, hl.2.1.symm⟩ g)
        | succ d ih =>
          intro n hd hn
          exact impl_EndsAt_step net s kinds h n (by omega) _ (fun g => absurd g (hnr _)) (fun _ _ => rfl) (fun _ _ => ih (n + 1) (by omega) (by omega))
      exact key _ 0 rfl (by omega)
  · simp only [h, decide_false, Bool.false_eq_true, if_false]
    rw [endsAt_no (fun x => h x.1)]
    exact Ev.now _

-- needs Fire
theorem shl_len {net : List Int} (h : net.length ≤ 6) : shl .i64 1 (net.length : Int) = 2 ^ net.length := shl1 (by omega)
theorem impl_setOk_ev (net : List Int) (set : Int) (hn : net.length ≤ 1048576) : Ev (fun k => impl_setOk.f k net set) (decide (SetP net set)) := by
  unfold impl_setOk.f
  refine Ev.bind (impl_NetOk_ev net hn) ?_
  by_cases h1 : NetP net
  · simp only [h1, decide_true, shl_len h1.2.1]
    by_cases h2 : set ≥ 0
    · simp (disch := omega) only [if_pos, if_neg, w64, rdn, rd0, tn, sc, Option.bind_some, ↓reduceIte, Bool.false_eq_true, Bool.true_eq_false]
      refine Ev.val ?_
      rw [decide_eq_decide]
      unfold SetP
      constructor
      · intro h; exact ⟨h1, h2, h⟩
      · intro h; exact h.2.2
    · simp (disch := omega) only [if_pos, if_neg, w64, rdn, rd0, tn, sc, Option.bind_some, ↓reduceIte, Bool.false_eq_true, Bool.true_eq_false]
      have : ¬ SetP net set := fun h => h2 h.2.1
      exact Ev.val (by simp [this])
  · simp only [h1, decide_false]
    simp (disch := omega) only [if_pos, if_neg, w64, rdn, rd0, tn, sc, Option.bind_some, ↓reduceIte, Bool.false_eq_true, Bool.true_eq_false]
    have : ¬ SetP net set := fun h => h1 h.1
    exact Ev.val (by simp [this])

-- needs Fire
theorem impl_LitState_l0 (n : Nat) (h1 : 1 ≤ n) (h6 : n ≤ 6) (set : Int) : ∀ (d i : Nat) (x : List Int), n - i = d → i ≤ n → x.length = n → (∀ p, p < i → G x p = set / 2 ^ p % 2) →
    Ev (fun k => impl_LitState.l0 k set x (n : Int) (i : Int)) (lit n set) := by
  intro d
  induction d with
  | zero =>
    intro i x hd hi hx hp
    refine Ev.step (fun k => impl_LitState.l0.eq_2 ..) ?_
    have : i = n := by omega
    simp (disch := omega) only [if_pos, if_neg, w64, rdn, rd0, tn, sc, Option.bind_some, ↓reduceIte, Bool.false_eq_true, Bool.true_eq_false]
    refine Ev.val (mk_eq_iff.2 ⟨hx, fun p hpl => hp p (by omega)⟩)
  | succ d ih =>
    intro i x hd hi hx hp
    refine Ev.step (fun k => impl_LitState.l0.eq_2 ..) ?_
    have hb := bit_and set (j := i) (by omega)
    simp only [hb]
    clear hb
    simp (disch := omega) only [if_pos, if_neg, w64, rdn, rd0, tn, sc, Option.bind_some, ↓reduceIte, Bool.false_eq_true, Bool.true_eq_false]
    refine ih (i + 1) _ (by omega) (by omega) (by simp [hx]) ?_
    intro p hpi
    by_cases e : p = i
    · subst e; rw [G_set_self _ (by omega)]
    · rw [G_set_ne _ e]; exact hp p (by omega)
theorem impl_LitState_ev (n : Nat) (h1 : 1 ≤ n) (h6 : n ≤ 6) (set : Int) (h0 : 0 ≤ set) (hs : set < 2 ^ n) : Ev (fun k => impl_LitState.f k (n : Int) set) (lit n set) := by
  have hs1 : shl .i64 1 (n : Int) = 2 ^ n := shl1 (by omega)
  unfold impl_LitState.f
  have e : decide (set ≥ (2 : Int) ^ n) = false := decide_eq_false (by omega)
  simp only [hs1, e]
  clear e
  simp (disch := omega) only [if_pos, if_neg, w64, rdn, rd0, tn, sc, Option.bind_some, ↓reduceIte, Bool.false_eq_true, Bool.true_eq_false]
  refine Ev.step (fun k => impl_LitState.j0.eq_2 ..) ?_
  simp (disch := omega) only [if_pos, if_neg, w64, rdn, rd0, tn, sc, Option.bind_some, ↓reduceIte, Bool.false_eq_true, Bool.true_eq_false]
  simp only [List.length_replicate]
  exact impl_LitState_l0 n h1 h6 set _ 0 _ rfl (by omega) (by simp) (fun p h => by omega)

-- needs Fire
noncomputable def waveEnd (net : List Int) (kinds set : Int) : Int := open Classical in if SetP net set then endsAt net kinds (lit net.length set) else -1
theorem lit_not {net : List Int} {kinds set : Int} (h : ¬ (3 ≤ kinds ∧ kinds ≤ 5)) : endsAt net kinds (lit net.length set) = -1 :=
  endsAt_no (fun x => h ⟨x.1.2.1.1, x.1.2.1.2.1⟩)
theorem impl_WaveEnd_ev (net : List Int) (kinds set : Int) (hl : net.length ≤ 1048576) : Ev (fun k => impl_WaveEnd.f k net kinds set) (waveEnd net kinds set) := by
  unfold impl_WaveEnd.f
  refine Ev.bind (impl_setOk_ev net set hl) ?_
  by_cases h : SetP net set
  · have e : waveEnd net kinds set = endsAt net kinds (lit net.length set) := if_pos h
    have l1 := lit_length net.length set
    rw [e]
    simp only [h, decide_true, if_true]
    refine Ev.bind (impl_LitState_ev net.length h.1.1 h.1.2.1 set h.2.1 h.2.2) ?_
    refine Ev.bind (impl_EndsAt_ev net _ kinds hl (by omega)) ?_
    exact Ev.now _
  · have e : waveEnd net kinds set = -1 := if_neg h
    rw [e]
    simp only [h, decide_false, Bool.false_eq_true, if_false]
    exact Ev.now _

theorem spec_NetOk_l2 (l : List Int) (h6 : l.length ≤ 6) (hr : ∀ j, j < l.length → 0 ≤ G l j ∧ G l j < 2 ^ l.length) (i : Nat) (hi : i < l.length) (r : Bool)
    (hbad : ∀ k, k < l.length → ¬ ((adj l i k ↔ adj l k i) ∧ ¬ (k = i ∧ adj l i i)) → r = false)
    (hgood : (∀ k, k < l.length → (adj l i k ↔ adj l k i)) → ¬ adj l i i → Ev (fun k => spec_NetOk.l1 k l ((i + 1 : Nat) : Int)) r) :
    ∀ (d : Nat) (j : Nat), l.length - j = d → j ≤ l.length → (∀ k, k < j → (adj l i k ↔ adj l k i) ∧ ¬ (k = i ∧ adj l i i)) →
      Ev (fun k => spec_NetOk.l2 k l (i : Int) (j : Int)) r := by
  intro d
  induction d with
  | zero =>
    intro j hd hj hk
    refine Ev.step (fun k => spec_NetOk.l2.eq_2 ..) ?_
    simp (disch := omega) only [if_pos, if_neg, w64, rdn, rd0, tn, sc, Option.bind_some, ↓reduceIte, Bool.false_eq_true, Bool.true_eq_false]
    exact hgood (fun k hkl => (hk k (by omega)).1) (fun h => (hk i (by omega)).2 ⟨rfl, h⟩)
  | succ d ih =>
    intro j hd hj hk
    refine Ev.step (fun k => spec_NetOk.l2.eq_2 ..) ?_
    have b1 := bit_mod (G l i) (j := j) (by omega) (hr i hi).1
    have b2 := bit_mod (G l j) (j := i) (by omega) (hr j (by omega)).1
    have m1 := Int.emod_two_eq (G l i / 2 ^ j)
    have m2 := Int.emod_two_eq (G l j / 2 ^ i)
    by_cases e : adj l i j ↔ adj l j i
    · have e' : G l i / 2 ^ j % 2 = G l j / 2 ^ i % 2 := by
        unfold adj at e
        by_cases c : G l i / 2 ^ j % 2 = 1
        · rw [c, e.1 c]
        · have c2 := fun h => c (e.2 h)
          omega
      simp only [rdn, b1, b2]
      by_cases eji : j = i
      · by_cases ea : G l i / 2 ^ j % 2 = 1
        · simp (disch := omega) only [if_pos, if_neg, w64, rdn, rd0, tn, sc, Option.bind_some, ↓reduceIte, Bool.false_eq_true, Bool.true_eq_false]
          refine Ev.val (hbad j (by omega) (fun h => h.2 ⟨eji, ?_⟩)).symm
          rw [eji] at ea; exact ea
        · simp (disch := omega) only [if_pos, if_neg, w64, rdn, rd0, tn, sc, Option.bind_some, ↓reduceIte, Bool.false_eq_true, Bool.true_eq_false]
          refine ih _ (by omega) (by omega) ?_
          intro k hkj
          by_cases e'' : k = j
          · subst e''; refine ⟨e, fun h => ea ?_⟩; have := h.2; rw [eji]; exact this
          · exact hk k (by omega)
      · simp (disch := omega) only [if_pos, if_neg, w64, rdn, rd0, tn, sc, Option.bind_some, ↓reduceIte, Bool.false_eq_true, Bool.true_eq_false]
        refine ih _ (by omega) (by omega) ?_
        intro k hkj
        by_cases e'' : k = j
        · subst e''; exact ⟨e, fun h => eji h.1⟩
        · exact hk k (by omega)
    · have e' : ¬ G l i / 2 ^ j % 2 = G l j / 2 ^ i % 2 := by
        intro h
        apply e
        unfold adj
        rw [h]
      simp only [rdn, b1, b2]
      simp (disch := omega) only [if_pos, if_neg, w64, rdn, rd0, tn, sc, Option.bind_some, ↓reduceIte, Bool.false_eq_true, Bool.true_eq_false]
      exact Ev.val (hbad j (by omega) (fun h => e h.1)).symm
theorem spec_NetOk_l1 (l : List Int) (h1 : 1 ≤ l.length) (h6 : l.length ≤ 6) (hr : ∀ j, j < l.length → 0 ≤ G l j ∧ G l j < 2 ^ l.length) : ∀ (d : Nat) (i : Nat), l.length - i = d → i ≤ l.length →
    (∀ j, j < i → (¬ adj l j j ∧ ∀ k, k < l.length → (adj l j k ↔ adj l k j))) → Ev (fun k => spec_NetOk.l1 k l (i : Int)) (decide (NetP l)) := by
  intro d
  induction d with
  | zero =>
    intro i hd hi hj
    refine Ev.step (fun k => spec_NetOk.l1.eq_2 ..) ?_
    simp (disch := omega) only [if_pos, if_neg, w64, rdn, rd0, tn, sc, Option.bind_some, ↓reduceIte, Bool.false_eq_true, Bool.true_eq_false]
    have : NetP l := ⟨h1, h6, fun j h => ⟨(hr j h).1, (hr j h).2, (hj j (by omega)).1, (hj j (by omega)).2⟩⟩
    exact Ev.val (by simp [this])
  | succ d ih =>
    intro i hd hi hj
    refine Ev.step (fun k => spec_NetOk.l1.eq_2 ..) ?_
    simp (disch := omega) only [if_pos, if_neg, w64, rdn, rd0, tn, sc, Option.bind_some, ↓reduceIte, Bool.false_eq_true, Bool.true_eq_false]
    refine spec_NetOk_l2 l h6 hr i (by omega) _ ?_ ?_ _ 0 rfl (by omega) (fun k h => by omega)
    · intro k hk hn
      have : ¬ NetP l := fun p => hn ⟨(p.2.2 i (by omega)).2.2.2 k hk, fun h => (p.2.2 i (by omega)).2.2.1 h.2⟩
      simp [this]
    · intro hall hirr
      refine ih _ (by omega) (by omega) ?_
      intro j hji
      by_cases e' : j = i
      · subst e'; exact ⟨hirr, hall⟩
      · exact hj j (by omega)
theorem spec_NetOk_l0 (l : List Int) (h1 : 1 ≤ l.length) (h6 : l.length ≤ 6) : ∀ (d : Nat) (i : Nat), l.length - i = d → i ≤ l.length →
    (∀ j, j < i → 0 ≤ G l j ∧ G l j < 2 ^ l.length) → Ev (fun k => spec_NetOk.l0 k l (i : Int)) (decide (NetP l)) := by
  intro d
  induction d with
  | zero =>
    intro i hd hi hj
    refine Ev.step (fun k => spec_NetOk.l0.eq_2 ..) ?_
    simp (disch := omega) only [if_pos, if_neg, w64, rdn, rd0, tn, sc, Option.bind_some, ↓reduceIte, Bool.false_eq_true, Bool.true_eq_false]
    exact spec_NetOk_l1 l h1 h6 (fun j h => hj j (by omega)) _ 0 rfl (by omega) (fun j h => by omega)
  | succ d ih =>
    intro i hd hi hj
    refine Ev.step (fun k => spec_NetOk.l0.eq_2 ..) ?_
    have hs := shl1 (n := l.length) (by omega)
    have hp := pow_lt63 (n := l.length) (by omega)
    have hq := pow_pos2 l.length
    have hw : wrap64 ((2 : Int) ^ l.length - 1) = 2 ^ l.length - 1 := w64 (by omega) (by omega)
    simp only [rdn, hs, hw, spec_l1In_eq, Option.bind_some]
    by_cases e : 0 ≤ G l i ∧ G l i ≤ 2 ^ l.length - 1
    · simp only [e, and_self, decide_true]
      simp (disch := omega) only [if_pos, if_neg, w64, rdn, rd0, tn, sc, Option.bind_some, ↓reduceIte, Bool.false_eq_true, Bool.true_eq_false]
      refine ih _ (by omega) (by omega) ?_
      intro j hji
      by_cases e' : j = i
      · subst e'; omega
      · exact hj j (by omega)
    · simp only [e, decide_false]
      simp (disch := omega) only [if_pos, if_neg, w64, rdn, rd0, tn, sc, Option.bind_some, ↓reduceIte, Bool.false_eq_true, Bool.true_eq_false]
      have : ¬ NetP l := fun p => e ⟨(p.2.2 i (by omega)).1, by have := (p.2.2 i (by omega)).2.1; omega⟩
      exact Ev.val (by simp [this])
theorem spec_NetOk_ev (l : List Int) (hl : l.length ≤ 1048576) : Ev (fun k => spec_NetOk.f k l) (decide (NetP l)) := by
  unfold spec_NetOk.f
  simp only [spec_l1In_eq, Option.bind_some]
  by_cases h : 1 ≤ l.length ∧ l.length ≤ 6
  · have h' : (1 : Int) ≤ (l.length : Int) ∧ (l.length : Int) ≤ 6 := by omega
    simp only [h', and_self, decide_true]
    simp (disch := omega) only [if_pos, if_neg, w64, rdn, rd0, tn, sc, Option.bind_some, ↓reduceIte, Bool.false_eq_true, Bool.true_eq_false]
    exact spec_NetOk_l0 l h.1 h.2 _ 0 rfl (by omega) (fun j h => by omega)
  · have h' : ¬ ((1 : Int) ≤ (l.length : Int) ∧ (l.length : Int) ≤ 6) := by omega
    simp only [h', decide_false]
    simp (disch := omega) only [if_pos, if_neg, w64, rdn, rd0, tn, sc, Option.bind_some, ↓reduceIte, Bool.false_eq_true, Bool.true_eq_false]
    have : ¬ NetP l := fun p => h ⟨p.1, p.2.1⟩
    exact Ev.val (by simp [this])

theorem spec_StateOk_l0 (a : Int) (l : List Int) (hl : l.length ≤ 1048576) : ∀ (d : Nat) (i : Nat), l.length - i = d → i ≤ l.length → (∀ j, j < i → 0 ≤ G l j ∧ G l j < a) → Ev (fun k => spec_StateOk.l0 k a l (i : Int)) (decide (StateP a l)) := by
  intro d
  induction d with
  | zero =>
    intro i hd hi hj
    refine Ev.step (fun k => spec_StateOk.l0.eq_2 ..) ?_
    simp only [spec_l1In_eq, Option.bind_some]
    obtain rfl : i = l.length := by omega
    by_cases h : 3 ≤ a ∧ a ≤ 5
    · simp only [h, and_self, decide_true]
      simp (disch := omega) only [if_pos, if_neg, w64, rdn, rd0, tn, sc, Option.bind_some, ↓reduceIte, Bool.false_eq_true, Bool.true_eq_false]
      refine Ev.val ?_
      rw [decide_eq_decide]
      unfold StateP
      constructor
      · intro e; exact ⟨h.1, h.2, by omega, by omega, hj⟩
      · intro e; have := e.2.2.1; have := e.2.2.2.1; omega
    · simp only [h, decide_false]
      simp (disch := omega) only [if_pos, if_neg, w64, rdn, rd0, tn, sc, Option.bind_some, ↓reduceIte, Bool.false_eq_true, Bool.true_eq_false]
      refine Ev.val ?_
      have : ¬ StateP a l := fun p => h ⟨p.1, p.2.1⟩
      simp [this]
  | succ d ih =>
    intro i hd hi hj
    refine Ev.step (fun k => spec_StateOk.l0.eq_2 ..) ?_
    by_cases e0 : G l i < 0
    · simp (disch := omega) only [if_pos, if_neg, w64, rdn, rd0, tn, sc, Option.bind_some, ↓reduceIte, Bool.false_eq_true, Bool.true_eq_false]
      refine Ev.val ?_
      have : ¬ StateP a l := fun p => by have := p.2.2.2.2 i (by omega); omega
      simp [this]
    · by_cases e1 : G l i ≥ a
      · simp (disch := omega) only [if_pos, if_neg, w64, rdn, rd0, tn, sc, Option.bind_some, ↓reduceIte, Bool.false_eq_true, Bool.true_eq_false]
        refine Ev.val ?_
        have : ¬ StateP a l := fun p => by have := p.2.2.2.2 i (by omega); omega
        simp [this]
      · simp (disch := omega) only [if_pos, if_neg, w64, rdn, rd0, tn, sc, Option.bind_some, ↓reduceIte, Bool.false_eq_true, Bool.true_eq_false]
        refine ih (i + 1) (by omega) (by omega) ?_
        intro j hji
        by_cases e' : j = i
        · subst e'; omega
        · exact hj j (by omega)
theorem spec_StateOk_ev (a : Int) (l : List Int) (hl : l.length ≤ 1048576) : Ev (fun k => spec_StateOk.f k a l) (decide (StateP a l)) := by
  unfold spec_StateOk.f
  exact spec_StateOk_l0 a l hl _ 0 rfl (by omega) (fun j h => by omega)

theorem spec_l3Ok_ev (net s : List Int) (kinds : Int) (hn : net.length ≤ 1048576) (hs : s.length ≤ 1048576) : Ev (fun k => spec_l3Ok.f k net kinds s) (decide (Asked net kinds s)) := by
  unfold spec_l3Ok.f
  refine Ev.bind (spec_NetOk_ev net hn) ?_
  by_cases h1 : NetP net
  · simp only [h1, decide_true]
    simp (disch := omega) only [if_pos, if_neg, w64, rdn, rd0, tn, sc, Option.bind_some, ↓reduceIte, Bool.false_eq_true, Bool.true_eq_false]
    refine Ev.bind (spec_StateOk_ev kinds s hs) ?_
    by_cases h2 : StateP kinds s
    · simp only [h2, decide_true]
      simp (disch := omega) only [if_pos, if_neg, w64, rdn, rd0, tn, sc, Option.bind_some, ↓reduceIte, Bool.false_eq_true, Bool.true_eq_false]
      refine Ev.val ?_
      rw [Bool.eq_iff_iff, beq_iff_eq, decide_eq_true_eq]
      unfold Asked
      constructor
      · intro h; exact ⟨h1, h2, by omega⟩
      · intro h; have := h.2.2; omega
    · simp only [h2, decide_false]
      simp (disch := omega) only [if_pos, if_neg, w64, rdn, rd0, tn, sc, Option.bind_some, ↓reduceIte, Bool.false_eq_true, Bool.true_eq_false]
      have : ¬ Asked net kinds s := fun h => h2 h.2.1
      exact Ev.val (by simp [this])
  · simp only [h1, decide_false]
    simp (disch := omega) only [if_pos, if_neg, w64, rdn, rd0, tn, sc, Option.bind_some, ↓reduceIte, Bool.false_eq_true, Bool.true_eq_false]
    have : ¬ Asked net kinds s := fun h => h1 h.1
    exact Ev.val (by simp [this])

theorem spec_l3Same_l0 (a b : List Int) (hl : a.length ≤ 1048576) (hab : a.length = b.length) : ∀ (d : Nat) (i : Nat), a.length - i = d → i ≤ a.length → (∀ j, j < i → G a j = G b j) → Ev (fun k => spec_l3Same.l0 k a b (i : Int)) (decide (a = b)) := by
  intro d
  induction d with
  | zero =>
    intro i hd hi hj
    refine Ev.step (fun k => spec_l3Same.l0.eq_2 ..) ?_
    simp (disch := omega) only [if_pos, if_neg, w64, rdn, rd0, tn, sc, Option.bind_some, ↓reduceIte, Bool.false_eq_true, Bool.true_eq_false]
    have e : a = b := ext hab (fun j h => hj j (by omega))
    exact Ev.val (by simp [e])
  | succ d ih =>
    intro i hd hi hj
    refine Ev.step (fun k => spec_l3Same.l0.eq_2 ..) ?_
    by_cases e : G a i = G b i
    · simp (disch := omega) only [if_pos, if_neg, w64, rdn, rd0, tn, sc, Option.bind_some, ↓reduceIte, Bool.false_eq_true, Bool.true_eq_false]
      refine ih _ (by omega) (by omega) ?_
      intro j hji
      by_cases e' : j = i
      · subst e'; exact e
      · exact hj j (by omega)
    · simp (disch := omega) only [if_pos, if_neg, w64, rdn, rd0, tn, sc, Option.bind_some, ↓reduceIte, Bool.false_eq_true, Bool.true_eq_false]
      have : a ≠ b := fun h => e (by rw [h])
      exact Ev.val (by simp [this])
theorem spec_l3Same_ev (a b : List Int) (hl : a.length ≤ 1048576) (hab : a.length = b.length) : Ev (fun k => spec_l3Same.f k a b) (decide (a = b)) := by
  unfold spec_l3Same.f
  exact spec_l3Same_l0 a b hl hab _ 0 rfl (by omega) (fun j h => by omega)

-- needs Fire
theorem and_zero {a b : Int} (ha : 0 ≤ a) (ha' : a < 64) (hb : 0 ≤ b) (hb' : b < 64) : Go.bits .and .i64 a b = 0 ↔ ∀ k : Nat, k < 6 → ¬ (a / 2 ^ k % 2 = 1 ∧ b / 2 ^ k % 2 = 1) := by
  obtain ⟨m, rfl⟩ := Int.eq_ofNat_of_zero_le ha
  obtain ⟨n, rfl⟩ := Int.eq_ofNat_of_zero_le hb
  rw [(bits_small m n (by omega) (by omega)).1]
  constructor
  · intro h k hk
    rw [bit_cast, bit_cast]
    have h0 : m &&& n = 0 := by omega
    have h1 := Nat.testBit_and m n k
    rw [h0, Nat.zero_testBit] at h1
    rintro ⟨h2, h3⟩
    rw [h2, h3] at h1
    cases h1
  · intro h
    have h0 : m &&& n = 0 := by
      apply Nat.eq_of_testBit_eq
      intro k
      rw [Nat.testBit_and, Nat.zero_testBit]
      by_cases hk : k < 6
      · have := h k hk
        rw [bit_cast, bit_cast] at this
        cases h2 : m.testBit k <;> cases h3 : n.testBit k <;> simp_all
      · have : m < 2 ^ k := Nat.lt_of_lt_of_le (show m < 2 ^ 6 by omega) (Nat.pow_le_pow_right (by decide) (by omega))
        rw [Nat.testBit_lt_two_pow this]; rfl
    omega
theorem spec_l3Step_l1 (net : List Int) (kinds : Int) (s : List Int) (h : Asked net kinds s) (m : Int) (hm0 : 0 ≤ m) (hm : m < 64) (hb : ∀ j : Nat, j < 6 → (m / 2 ^ j % 2 = 1 ↔ j < s.length ∧ G s j = 1)) :
    ∀ (d i : Nat), s.length - i = d → i ≤ s.length →
    Ev (fun k => spec_l3Step.l1 k net kinds s m (mk i (fun i => if 0 < G s i then (G s i + 1) % kinds else if Fires net s i then 1 else 0)) (i : Int)) (fire net kinds s) := by
  intro d
  have h6 := asked6 h
  have hl := h.2.2
  have hk3 := h.2.1.1
  have hk5 := h.2.1.2.1
  induction d with
  | zero =>
    intro i hd hi
    refine Ev.step (fun k => spec_l3Step.l1.eq_2 ..) ?_
    have ei : i = s.length := by omega
    subst ei
    simp (disch := omega) only [if_pos, if_neg, w64, rdn, rd0, tn, sc, Option.bind_some, ↓reduceIte, Bool.false_eq_true, Bool.true_eq_false]
    exact Ev.now _
  | succ d ih =>
    intro i hd hi
    refine Ev.step (fun k => spec_l3Step.l1.eq_2 ..) ?_
    have hn := ih (i + 1) (by omega) (by omega)
    rw [mk_succ] at hn
    have hL : (mk i (fun i => if 0 < G s i then (G s i + 1) % kinds else if Fires net s i then 1 else 0)).length = i := mk_length _ _
    have hbd := h.2.1.2.2.2.2 i (by omega)
    have e1 : Int.tmod (wrap64 (G s i + 1)) kinds = (G s i + 1) % kinds := by rw [w64 (by omega) (by omega), tmod_nn (by omega)]
    simp only [rdn, e1]
    clear e1
    by_cases e : G s i > 0
    · simp only [show 0 < G s i from e, if_true] at hn
      simp (disch := omega) only [if_pos, if_neg, w64, rdn, rd0, tn, sc, Option.bind_some, ↓reduceIte, Bool.false_eq_true, Bool.true_eq_false]
      exact hn
    · simp only [show ¬ 0 < G s i from e, if_false] at hn
      have hni := h.1.2.2 i (by omega)
      have hp : (2 : Int) ^ net.length ≤ 64 := by
        have : (2 : Nat) ^ net.length ≤ 2 ^ 6 := Nat.pow_le_pow_right (by decide) h.1.2.1
        rw [two_pow_cast]; omega
      have hz := and_zero (a := G net i) (b := m) hni.1 (by omega) hm0 hm
      have hf : Go.bits .and .i64 (G net i) m = 0 ↔ ¬ Fires net s i := by
        rw [hz]
        constructor
        · rintro g ⟨j, hj, ha, e1⟩; exact g j (by omega) ⟨ha, (hb j (by omega)).2 ⟨hj, e1⟩⟩
        · rintro g k hk ⟨ha, e1⟩
          have h2 := (hb k hk).1 e1
          exact g ⟨k, h2.1, ha, h2.2⟩
      clear hz hp hni
      by_cases g : Fires net s i
      · have hf' : ¬ Go.bits .and .i64 (G net i) m = 0 := fun x => hf.1 x g
        simp only [g, if_true] at hn
        clear hf hb
        simp (disch := omega) only [if_pos, if_neg, w64, rdn, rd0, tn, sc, Option.bind_some, ↓reduceIte, Bool.false_eq_true, Bool.true_eq_false]
        exact hn
      · have hf' : Go.bits .and .i64 (G net i) m = 0 := hf.2 g
        simp only [g, if_false] at hn
        have e0 : G s i = 0 := by omega
        clear hf hb
        simp (disch := omega) only [if_pos, if_neg, w64, rdn, rd0, tn, sc, Option.bind_some, ↓reduceIte, Bool.false_eq_true, Bool.true_eq_false]
        rw [e0]
        exact hn
theorem spec_l3Step_l0 (net : List Int) (kinds : Int) (s : List Int) (h : Asked net kinds s) : ∀ (d i : Nat) (m : Int), s.length - i = d → i ≤ s.length → 0 ≤ m → m < 64 → (∀ j : Nat, j < 6 → (m / 2 ^ j % 2 = 1 ↔ j < i ∧ G s j = 1)) →
    Ev (fun k => spec_l3Step.l0 k net kinds s m (i : Int)) (fire net kinds s) := by
  intro d
  have h6 := asked6 h
  induction d with
  | zero =>
    intro i m hd hi hm0 hm hb
    refine Ev.step (fun k => spec_l3Step.l0.eq_2 ..) ?_
    have ei : i = s.length := by omega
    subst ei
    have hn := spec_l3Step_l1 net kinds s h m hm0 hm hb _ 0 rfl (by omega)
    clear hb
    simp (disch := omega) only [if_pos, if_neg, w64, rdn, rd0, tn, sc, Option.bind_some, ↓reduceIte, Bool.false_eq_true, Bool.true_eq_false]
    exact hn
  | succ d ih =>
    intro i m hd hi hm0 hm hb
    refine Ev.step (fun k => spec_l3Step.l0.eq_2 ..) ?_
    simp only [rdn]
    by_cases e : G s i = 1
    · obtain ⟨y, hy, hy0, hy1, hyb⟩ := or_bit hm0 hm (j := i) (by omega)
      have hn := ih (i + 1) y (by omega) (by omega) hy0 hy1 (fun j hj => by
        rw [hyb j, hb j hj]
        constructor
        · rintro (g | g)
          · exact ⟨by omega, g.2⟩
          · subst g; exact ⟨by omega, e⟩
        · rintro ⟨g1, g2⟩
          by_cases x : j = i
          · exact Or.inr x
          · exact Or.inl ⟨by omega, g2⟩)
      clear hb hyb
      simp only [hy]
      simp (disch := omega) only [if_pos, if_neg, w64, rdn, rd0, tn, sc, Option.bind_some, ↓reduceIte, Bool.false_eq_true, Bool.true_eq_false]
      exact hn
    · have hn := ih (i + 1) m (by omega) (by omega) hm0 hm (fun j hj => by
        rw [hb j hj]
        constructor
        · rintro g; exact ⟨by omega, g.2⟩
        · rintro ⟨g1, g2⟩
          have : j ≠ i := by rintro rfl; exact e g2
          exact ⟨by omega, g2⟩)
      clear hb
      simp (disch := omega) only [if_pos, if_neg, w64, rdn, rd0, tn, sc, Option.bind_some, ↓reduceIte, Bool.false_eq_true, Bool.true_eq_false]
      exact hn
theorem spec_l3Step_ev (net : List Int) (kinds : Int) (s : List Int) (h : Asked net kinds s) : Ev (fun k => spec_l3Step.f k net kinds s) (fire net kinds s) := by
  unfold spec_l3Step.f
  exact spec_l3Step_l0 net kinds s h _ 0 0 rfl (by omega) (by omega) (by omega) (fun j hj => by simp)

-- needs Stand
theorem spec_LoopOf_l2 (net s : List Int) (kinds : Int) (h : Asked net kinds s) (b L : Nat) (hl : IsLoop (fireN net kinds s) b L) (hbl : b + L ≤ 15625) : ∀ (d l : Nat), L - l = d → 1 ≤ l → l ≤ L →
    Ev (fun k => spec_LoopOf.l2 k net kinds (fireN net kinds s b) (fireN net kinds s (b + l)) (b : Int) (l : Int)) ((b : Int), (L : Int)) := by
  intro d
  have h6 := asked6 h
  induction d with
  | zero =>
    intro l hd h1 h2
    refine Ev.step (fun k => spec_LoopOf.l2.eq_2 ..) ?_
    refine Ev.bind (spec_l3Same_ev _ _ (by rw [fireN_length]; omega) (by rw [fireN_length, fireN_length])) ?_
    have e : l = L := by omega
    have hdd : decide (fireN net kinds s b = fireN net kinds s (b + l)) = true := decide_eq_true ((long_iff (fireN_orbit net kinds s) hl h1 h2).2 e)
    simp only [hdd, if_true]
    rw [e]
    exact Ev.now _
  | succ d ih =>
    intro l hd h1 h2
    refine Ev.step (fun k => spec_LoopOf.l2.eq_2 ..) ?_
    refine Ev.bind (spec_l3Same_ev _ _ (by rw [fireN_length]; omega) (by rw [fireN_length, fireN_length])) ?_
    have e : ¬ fireN net kinds s b = fireN net kinds s (b + l) := fun x => by have := (long_iff (fireN_orbit net kinds s) hl h1 h2).1 x; omega
    simp only [e, decide_false, Bool.false_eq_true, if_false]
    refine Ev.bind (spec_l3Step_ev net kinds _ (fireN_ok h (b + l))) ?_
    have hw : wrap64 ((l : Int) + 1) = ((l + 1 : Nat) : Int) := by rw [w64 (by omega) (by omega)]; rfl
    simp only [hw]
    exact ih (l + 1) (by omega) (by omega) (by omega)
theorem spec_LoopOf_l1 (net s : List Int) (kinds : Int) (h : Asked net kinds s) (b L : Nat) (hl : IsLoop (fireN net kinds s) b L) (hbl : b + L ≤ 15625) (n : Nat) (hn1 : 1 ≤ n) (hnL : n % L = 0) : ∀ (d m : Nat), b - m = d → m ≤ b →
    Ev (fun k => spec_LoopOf.l1 k net kinds (fireN net kinds s m) (fireN net kinds s (2 * n + m)) (m : Int)) ((b : Int), (L : Int)) := by
  intro d
  have h6 := asked6 h
  induction d with
  | zero =>
    intro m hd hm
    refine Ev.step (fun k => spec_LoopOf.l1.eq_2 ..) ?_
    refine Ev.bind (spec_l3Same_ev _ _ (by rw [fireN_length]; omega) (by rw [fireN_length, fireN_length])) ?_
    have e : m = b := by omega
    subst e
    have hdd : decide (fireN net kinds s m = fireN net kinds s (2 * n + m)) = true := decide_eq_true ((before_iff (fireN_orbit net kinds s) hl hn1 hnL (m := m)).2 (Nat.le_refl _))
    simp only [hdd, if_true]
    refine Ev.bind (spec_l3Step_ev net kinds _ (fireN_ok h m)) ?_
    exact spec_LoopOf_l2 net s kinds h m L hl hbl _ 1 rfl (Nat.le_refl _) hl.1
  | succ d ih =>
    intro m hd hm
    refine Ev.step (fun k => spec_LoopOf.l1.eq_2 ..) ?_
    refine Ev.bind (spec_l3Same_ev _ _ (by rw [fireN_length]; omega) (by rw [fireN_length, fireN_length])) ?_
    have e : ¬ fireN net kinds s m = fireN net kinds s (2 * n + m) := fun x => by have := (before_iff (fireN_orbit net kinds s) hl hn1 hnL).1 x; omega
    simp only [e, decide_false, Bool.false_eq_true, if_false]
    refine Ev.bind (spec_l3Step_ev net kinds _ (fireN_ok h m)) ?_
    refine Ev.bind (spec_l3Step_ev net kinds _ (fireN_ok h (2 * n + m))) ?_
    have hw : wrap64 ((m : Int) + 1) = ((m + 1 : Nat) : Int) := by rw [w64 (by omega) (by omega)]; rfl
    simp only [hw]
    exact ih (m + 1) (by omega) (by omega)
theorem spec_LoopOf_l0 (net s : List Int) (kinds : Int) (h : Asked net kinds s) (b L : Nat) (hl : IsLoop (fireN net kinds s) b L) (hbl : b + L ≤ 15625) (n0 : Nat) (hb0 : b ≤ n0) (hL0 : n0 % L = 0) : ∀ (d n : Nat), n0 - n = d → 1 ≤ n → n ≤ n0 →
    Ev (fun k => spec_LoopOf.l0 k net kinds s (fireN net kinds s n) (fireN net kinds s (2 * n))) ((b : Int), (L : Int)) := by
  intro d
  have h6 := asked6 h
  have key : ∀ n, 1 ≤ n → fireN net kinds s n = fireN net kinds s (2 * n) → Ev (fun k => spec_LoopOf.l0 k net kinds s (fireN net kinds s n) (fireN net kinds s (2 * n))) ((b : Int), (L : Int)) := by
    intro n hn e
    have hm := (meet_iff (fireN_orbit net kinds s) hl hn).1 e
    refine Ev.step (fun k => spec_LoopOf.l0.eq_2 ..) ?_
    refine Ev.bind (spec_l3Same_ev _ _ (by rw [fireN_length]; omega) (by rw [fireN_length, fireN_length])) ?_
    have hd : decide (fireN net kinds s n = fireN net kinds s (2 * n)) = true := decide_eq_true e
    have h0 : ([] : List Int).length = 0 := rfl
    simp only [hd, if_true, Option.bind_some, h0, List.nil_append]
    clear hd
    have hx := spec_LoopOf_l1 net s kinds h b L hl hbl n hn hm.2 _ 0 rfl (by omega)
    simp (disch := omega) only [if_pos, if_neg, w64, rdn, rd0, tn, sc, Option.bind_some, ↓reduceIte, Bool.false_eq_true, Bool.true_eq_false]
    exact hx
  induction d with
  | zero =>
    intro n hd hn1 hn
    have e : n = n0 := by omega
    subst e
    exact key n hn1 ((meet_iff (fireN_orbit net kinds s) hl hn1).2 ⟨hb0, hL0⟩)
  | succ d ih =>
    intro n hd hn1 hn
    by_cases e : fireN net kinds s n = fireN net kinds s (2 * n)
    · exact key n hn1 e
    · refine Ev.step (fun k => spec_LoopOf.l0.eq_2 ..) ?_
      refine Ev.bind (spec_l3Same_ev _ _ (by rw [fireN_length]; omega) (by rw [fireN_length, fireN_length])) ?_
      simp only [e, decide_false, Bool.false_eq_true, if_false]
      refine Ev.bind (spec_l3Step_ev net kinds _ (fireN_ok h n)) ?_
      refine Ev.bind (spec_l3Step_ev net kinds _ (fireN_ok h (2 * n))) ?_
      refine Ev.bind (spec_l3Step_ev net kinds _ (fireN_ok h (2 * n + 1))) ?_
      have := ih (n + 1) (by omega) (by omega) (by omega)
      rw [show 2 * (n + 1) = 2 * n + 1 + 1 from by omega] at this
      exact this
theorem spec_LoopOf_ev (net s : List Int) (kinds : Int) (hn : net.length ≤ 1048576) (hs : s.length ≤ 1048576) (h : Asked net kinds s) (b L : Nat) (hl : IsLoop (fireN net kinds s) b L) (hbl : b + L ≤ 15625) : Ev (fun k => spec_LoopOf.f k net kinds s) ((b : Int), (L : Int)) := by
  unfold spec_LoopOf.f
  refine Ev.bind (spec_l3Ok_ev net s kinds hn hs) ?_
  simp only [h, decide_true, if_true]
  obtain ⟨n0, h1, h2, h3, _⟩ := meet_exists b L hl.1
  refine Ev.bind (spec_l3Step_ev net kinds s h) ?_
  refine Ev.bind (spec_l3Step_ev net kinds _ (fire_ok h)) ?_
  exact spec_LoopOf_l0 net s kinds h b L hl hbl n0 h2 h3 _ 1 rfl (Nat.le_refl _) h1
theorem spec_LoopOf_no (net s : List Int) (kinds : Int) (hn : net.length ≤ 1048576) (hs : s.length ≤ 1048576) (h : ¬ Asked net kinds s) : Ev (fun k => spec_LoopOf.f k net kinds s) ((-1 : Int), (-1 : Int)) := by
  unfold spec_LoopOf.f
  refine Ev.bind (spec_l3Ok_ev net s kinds hn hs) ?_
  simp only [h, decide_false, Bool.false_eq_true, if_false]
  exact Ev.now _

-- needs Stand
theorem spec_EndsAt_l1 (x : List Int) (hx : x.length ≤ 6) (b : Int) (hb : ∀ i, i < x.length → 0 ≤ G x i) : ∀ (d i : Nat), x.length - i = d → i ≤ x.length → (∀ j, j < i → G x j = 0) →
    (AtRest x → Ev (fun k => spec_EndsAt.l1 k b x (i : Int)) b) ∧ (¬ AtRest x → Ev (fun k => spec_EndsAt.l1 k b x (i : Int)) (-1)) := by
  intro d
  induction d with
  | zero =>
    intro i hd hi hj
    have hr : AtRest x := fun j hjl => hj j (by omega)
    refine ⟨fun _ => ?_, fun g => absurd hr g⟩
    refine Ev.step (fun k => spec_EndsAt.l1.eq_2 ..) ?_
    simp (disch := omega) only [if_pos, if_neg, w64, rdn, rd0, tn, sc, Option.bind_some, ↓reduceIte, Bool.false_eq_true, Bool.true_eq_false]
    exact Ev.now _
  | succ d ih =>
    intro i hd hi hj
    by_cases e : G x i = 0
    · obtain ⟨h1, h2⟩ := ih (i + 1) (by omega) (by omega) (fun j hji => by
        by_cases g : j = i
        · subst g; exact e
        · exact hj j (by omega))
      constructor
      · intro g
        have hn := h1 g
        refine Ev.step (fun k => spec_EndsAt.l1.eq_2 ..) ?_
        simp only [rdn]
        simp (disch := omega) only [if_pos, if_neg, w64, rdn, rd0, tn, sc, Option.bind_some, ↓reduceIte, Bool.false_eq_true, Bool.true_eq_false]
        exact hn
      · intro g
        have hn := h2 g
        refine Ev.step (fun k => spec_EndsAt.l1.eq_2 ..) ?_
        simp only [rdn]
        simp (disch := omega) only [if_pos, if_neg, w64, rdn, rd0, tn, sc, Option.bind_some, ↓reduceIte, Bool.false_eq_true, Bool.true_eq_false]
        exact hn
    · refine ⟨fun g => absurd (g i (by omega)) e, fun _ => ?_⟩
      refine Ev.step (fun k => spec_EndsAt.l1.eq_2 ..) ?_
      simp only [rdn]
      simp (disch := omega) only [if_pos, if_neg, w64, rdn, rd0, tn, sc, Option.bind_some, ↓reduceIte, Bool.false_eq_true, Bool.true_eq_false]
      exact Ev.now _
theorem spec_EndsAt_l0 (net s : List Int) (kinds : Int) (h : Asked net kinds s) (b : Nat) (hb : b ≤ 15625) (r : Int) (hr : Ev (fun k => spec_EndsAt.l1 k (b : Int) (fireN net kinds s b) 0) r) : ∀ (d n : Nat), b - n = d → n ≤ b →
    Ev (fun k => spec_EndsAt.l0 k net kinds (b : Int) (fireN net kinds s n) (n : Int)) r := by
  intro d
  induction d with
  | zero =>
    intro n hd hn
    have e : n = b := by omega
    subst e
    refine Ev.step (fun k => spec_EndsAt.l0.eq_2 ..) ?_
    simp only [show ¬ (n : Int) < (n : Int) by omega, if_false]
    exact hr
  | succ d ih =>
    intro n hd hn
    refine Ev.step (fun k => spec_EndsAt.l0.eq_2 ..) ?_
    have hw : wrap64 ((n : Int) + 1) = ((n + 1 : Nat) : Int) := by rw [w64 (by omega) (by omega)]; rfl
    simp only [show (n : Int) < (b : Int) by omega, if_true, hw]
    refine Ev.bind (spec_l3Step_ev net kinds _ (fireN_ok h n)) ?_
    exact ih (n + 1) (by omega) (by omega)
theorem spec_EndsAt_ev (net s : List Int) (kinds : Int) (hn : net.length ≤ 1048576) (hs : s.length ≤ 1048576) : Ev (fun k => spec_EndsAt.f k net kinds s) (endsAt net kinds s) := by
  unfold spec_EndsAt.f
  by_cases h : Asked net kinds s
  · obtain ⟨b, L, hl, hbl⟩ := fire_loop_exists h
    have hL1 := hl.1
    refine Ev.bind (spec_LoopOf_ev net s kinds hn hs h b L hl hbl) ?_
    simp only [show ¬ (b : Int) < 0 by omega, if_false]
    have hlr := loop_rest h hl
    by_cases e : (L : Int) > 1
    · have e2 : decide ((L : Int) > 1) = true := decide_eq_true e
      rw [endsAt_no (fun x => by have := (hlr.1 x.2).1; omega)]
      simp only [e2]
      refine Ev.step (fun k => spec_EndsAt.j0.eq_2 ..) ?_
      simp only [if_true]
      exact Ev.now _
    · have e2 : decide ((L : Int) > 1) = false := decide_eq_false e
      have eL : L = 1 := by omega
      simp only [e2]
      refine Ev.step (fun k => spec_EndsAt.j0.eq_2 ..) ?_
      have h0 : ([] : List Int).length = 0 := rfl
      have h6 := asked6 h
      simp only [Bool.false_eq_true, if_false, Option.bind_some, h0, List.nil_append]
      have hA := fireN_ok h b
      have hl1 := spec_EndsAt_l1 (fireN net kinds s b) (asked6 hA) (b : Int) (fun i hi => (hA.2.1.2.2.2.2 i hi).1) _ 0 rfl (by omega) (fun j hj => by omega)
      by_cases g : AtRest (fireN net kinds s b)
      · rw [endsAt_eq h (loop_ends hl g)]
        have hx := spec_EndsAt_l0 net s kinds h b (by omega) _ (hl1.1 g) _ 0 rfl (by omega)
        simp (disch := omega) only [if_pos, if_neg, w64, rdn, rd0, tn, sc, Option.bind_some, ↓reduceIte, Bool.false_eq_true, Bool.true_eq_false]
        exact hx
      · rw [endsAt_no (fun x => g (hlr.1 x.2).2)]
        have hx := spec_EndsAt_l0 net s kinds h b (by omega) _ (hl1.2 g) _ 0 rfl (by omega)
        simp (disch := omega) only [if_pos, if_neg, w64, rdn, rd0, tn, sc, Option.bind_some, ↓reduceIte, Bool.false_eq_true, Bool.true_eq_false]
        exact hx
  · rw [endsAt_no (fun x => h x.1)]
    refine Ev.bind (spec_LoopOf_no net s kinds hn hs h) ?_
    simp only [show ((-1 : Int) < 0) by decide, if_true]
    refine Ev.step (fun k => spec_EndsAt.j0.eq_2 ..) ?_
    simp only [if_true]
    exact Ev.now _

-- needs Fire
theorem spec_LitState_l0 (n : Nat) (h1 : 1 ≤ n) (h6 : n ≤ 6) (set : Int) (h0 : 0 ≤ set) (hs : set < 2 ^ n) : ∀ (d i : Nat), n - i = d → i ≤ n →
    Ev (fun k => spec_LitState.l0 k (n : Int) set (mk i (fun p => set / 2 ^ p % 2)) (i : Int)) (lit n set) := by
  intro d
  induction d with
  | zero =>
    intro i hd hi
    refine Ev.step (fun k => spec_LitState.l0.eq_2 ..) ?_
    have ei : i = n := by omega
    subst ei
    simp (disch := omega) only [if_pos, if_neg, w64, rdn, rd0, tn, sc, Option.bind_some, ↓reduceIte, Bool.false_eq_true, Bool.true_eq_false]
    exact Ev.now _
  | succ d ih =>
    intro i hd hi
    refine Ev.step (fun k => spec_LitState.l0.eq_2 ..) ?_
    have e1 : spec_l1In.f (n : Int) 1 6 = some true := by rw [spec_l1In_eq]; simp; omega
    have hp := pow_lt63 (show n ≤ 62 by omega)
    have hp0 := pow_pos2 n
    have e2 : spec_l1In.f set 0 (wrap64 (shl .i64 1 (n : Int) - 1)) = some true := by rw [spec_l1In_eq, shl1 (by omega), w64 (by omega) (by omega)]; simp; omega
    have e3 := bit_mod set (j := i) (by omega) h0
    have hn := ih (i + 1) (by omega) (by omega)
    rw [mk_succ] at hn
    have hl : (mk i (fun p => set / 2 ^ p % 2)).length = i := mk_length _ _
    simp only [e1, e2, e3, Option.bind_some]
    clear e1 e2 e3 hp hp0 hs
    simp (disch := omega) only [if_pos, if_neg, w64, rdn, rd0, tn, sc, Option.bind_some, ↓reduceIte, Bool.false_eq_true, Bool.true_eq_false]
    exact hn
theorem spec_LitState_ev (n : Nat) (h1 : 1 ≤ n) (h6 : n ≤ 6) (set : Int) (h0 : 0 ≤ set) (hs : set < 2 ^ n) : Ev (fun k => spec_LitState.f k (n : Int) set) (lit n set) := by
  unfold spec_LitState.f
  exact spec_LitState_l0 n h1 h6 set h0 hs _ 0 rfl (by omega)

-- needs Fire
theorem spec_WaveEnd_ev (net : List Int) (kinds set : Int) (hl : net.length ≤ 1048576) : Ev (fun k => spec_WaveEnd.f k net kinds set) (waveEnd net kinds set) := by
  unfold spec_WaveEnd.f
  refine Ev.bind (spec_NetOk_ev net hl) ?_
  have hno : waveEnd net kinds set = -1 → Ev (fun k => spec_WaveEnd.j0 k net kinds set true) (waveEnd net kinds set) := by
    intro h
    rw [h]
    refine Ev.step (fun k => spec_WaveEnd.j0.eq_2 ..) ?_
    simp only [if_true]
    exact Ev.now _
  by_cases h1 : NetP net
  · simp only [h1, decide_true, if_true, spec_l1In_eq, Option.bind_some]
    by_cases h3 : 3 ≤ kinds ∧ kinds ≤ 5
    · have e3 : decide (3 ≤ kinds ∧ kinds ≤ 5) = true := decide_eq_true h3
      have hp := pow_lt63 (show net.length ≤ 62 by have := h1.2.1; omega)
      have hp0 := pow_pos2 net.length
      rw [shl1 (show net.length ≤ 62 by have := h1.2.1; omega), w64 (n := 2 ^ net.length - 1) (by omega) (by omega)]
      simp only [e3, if_true]
      by_cases h2 : 0 ≤ set ∧ set ≤ 2 ^ net.length - 1
      · have e2 : decide (0 ≤ set ∧ set ≤ 2 ^ net.length - 1) = true := decide_eq_true h2
        have hS : SetP net set := ⟨h1, h2.1, by omega⟩
        have e : waveEnd net kinds set = endsAt net kinds (lit net.length set) := if_pos hS
        have l1 := lit_length net.length set
        rw [e]
        simp only [e2, Bool.not_true]
        refine Ev.step (fun k => spec_WaveEnd.j0.eq_2 ..) ?_
        simp only [Bool.false_eq_true, if_false]
        refine Ev.bind (spec_LitState_ev net.length h1.1 h1.2.1 set hS.2.1 hS.2.2) ?_
        refine Ev.bind (spec_EndsAt_ev net _ kinds hl (by omega)) ?_
        exact Ev.now _
      · have e2 : decide (0 ≤ set ∧ set ≤ 2 ^ net.length - 1) = false := decide_eq_false h2
        simp only [e2, Bool.not_false]
        exact hno (if_neg (fun h => h2 ⟨h.2.1, by have := h.2.2; omega⟩))
    · have e3 : decide (3 ≤ kinds ∧ kinds ≤ 5) = false := decide_eq_false h3
      simp only [e3, Bool.false_eq_true, if_false]
      refine hno ?_
      by_cases hS : SetP net set
      · have e : waveEnd net kinds set = endsAt net kinds (lit net.length set) := if_pos hS
        rw [e]; exact lit_not h3
      · exact if_neg hS
  · simp only [h1, decide_false, Bool.false_eq_true, if_false]
    exact hno (if_neg (fun h => h1 h.1))

-- needs Fire
/-- What the next wave is. -/
def NextW (net : List Int) (S : Nat → Prop) (n i : Nat) (k : Nat) : Prop := ∃ j, j < i ∧ Dist net net.length S j n ∧ adj net j k
theorem impl_DistancesFrom_l2 (net : List Int) (hn : NetP net) (S : Nat → Prop) (w : Int) (n : Nat) (hn7 : n ≤ 7)
    (hw1 : ∀ k, k < net.length → bitOf w k → Rch net net.length S n k) (hw2 : ∀ k, k < net.length → Dist net net.length S k n → bitOf w k) (r : List Int)
    (hend : ∀ (y : List Int) (w' : Int), y.length = net.length → (∀ p, p < net.length → G y p = soFar (distOf net net.length S p) ((n + 1 : Nat) : Int)) → 0 ≤ w' → w' < 64 → (∀ k, bitOf w' k ↔ NextW net S n net.length k) →
      Ev (fun k => impl_DistancesFrom.l1 k net w' y ((n + 1 : Nat) : Int)) r) :
    ∀ (d i : Nat) (x : List Int) (x8 : Int), net.length - i = d → i ≤ net.length → x.length = net.length → (∀ p, p < net.length → G x p = soFar (distOf net net.length S p) (if p < i then ((n + 1 : Nat) : Int) else (n : Int))) →
      0 ≤ x8 → x8 < 64 → (∀ k, bitOf x8 k ↔ NextW net S n i k) →
      Ev (fun k => impl_DistancesFrom.l2 k net w x (n : Int) x8 (net.length : Int) (i : Int)) r := by
  intro d
  have h6 := hn.2.1
  induction d with
  | zero =>
    intro i x x8 hd hi hx hp h0 h64 hb
    have ei : i = net.length := by omega
    refine Ev.step (fun k => impl_DistancesFrom.l2.eq_2 ..) ?_
    have hnx := hend x x8 hx (fun p hpl => by rw [hp p hpl, if_pos (by omega)]) h0 h64 (by rw [ei] at hb; exact hb)
    clear hp hb hw1 hw2 hend
    simp (disch := omega) only [if_pos, if_neg, w64, rdn, rd0, tn, sc, Option.bind_some, ↓reduceIte, Bool.false_eq_true, Bool.true_eq_false]
    exact hnx
  | succ d ih =>
    intro i x x8 hd hi hx hp h0 h64 hb
    refine Ev.step (fun k => impl_DistancesFrom.l2.eq_2 ..) ?_
    have hil : i < net.length := by omega
    have hbit := bit_and w (j := i) (by omega)
    have hxi := hp i hil
    rw [if_neg (by omega)] at hxi
    simp only [rdn, hbit]
    clear hbit
    have hstay : distOf net net.length S i ≠ (n : Int) → ∀ p, p < net.length → G x p = soFar (distOf net net.length S p) (if p < i + 1 then ((n + 1 : Nat) : Int) else (n : Int)) := fun hne p hpl => by
      rw [hp p hpl]
      by_cases ep : p = i
      · subst ep; rw [if_neg (by omega), if_pos (by omega), soFar_step.2 hne]
      · by_cases g : p < i
        · rw [if_pos g, if_pos (by omega)]
        · rw [if_neg g, if_neg (by omega)]
    have hbstay : distOf net net.length S i ≠ (n : Int) → ∀ k, bitOf x8 k ↔ NextW net S n (i + 1) k := fun hne k => by
      rw [hb k]
      constructor
      · rintro ⟨j, hj, h1, h2⟩; exact ⟨j, by omega, h1, h2⟩
      · rintro ⟨j, hj, h1, h2⟩
        by_cases ej : j = i
        · subst ej; exact absurd (dist_iff.2 h1) hne
        · exact ⟨j, by omega, h1, h2⟩
    by_cases e1 : w / 2 ^ i % 2 = 1
    · have hr := hw1 i hil e1
      obtain ⟨e, hle, hde⟩ := dist_of_rch n hr
      have hdi := dist_iff.2 hde
      by_cases e2 : e = n
      · subst e2
        have g2 : G x i < 0 := by rw [hxi, hdi]; unfold soFar; rw [if_neg (by omega)]; omega
        have hb64 := net_lt64 hn hil
        obtain ⟨y, hy, hy0, hy64, hyb⟩ := or_two h0 h64 hb64.1 hb64.2
        have hnx := ih (i + 1) (x.set i (e : Int)) y (by omega) (by omega) (by simp [hx]) (fun p hpl => by
          by_cases ep : p = i
          · subst ep; rw [G_set_self _ (by omega), if_pos (by omega), hdi, (soFar_step (v := (e : Int)) (n := e)).1 rfl]
          · rw [G_set_ne _ ep, hp p hpl]
            by_cases g : p < i
            · rw [if_pos g, if_pos (by omega)]
            · rw [if_neg g, if_neg (by omega)]) hy0 hy64 (fun k => by
          have h1 := hyb k
          have h2 := hb k
          constructor
          · intro g
            rcases h1.1 g with g | g
            · obtain ⟨j, hj, a, b⟩ := h2.1 g; exact ⟨j, by omega, a, b⟩
            · exact ⟨i, by omega, hde, g⟩
          · rintro ⟨j, hj, a, b⟩
            by_cases ej : j = i
            · subst ej; exact h1.2 (Or.inr b)
            · exact h1.2 (Or.inl (h2.2 ⟨j, by omega, a, b⟩)))
        clear hp hb hw1 hw2 hend hstay hbstay hyb hxi
        simp only [hy]
        simp (disch := omega) only [if_pos, if_neg, w64, rdn, rd0, tn, sc, Option.bind_some, ↓reduceIte, Bool.false_eq_true, Bool.true_eq_false]
        exact hnx
      · have hne : distOf net net.length S i ≠ (n : Int) := by rw [hdi]; omega
        have g2 : ¬ G x i < 0 := by rw [hxi, hdi]; unfold soFar; rw [if_pos (by omega)]; omega
        have hnx := ih (i + 1) x x8 (by omega) (by omega) hx (hstay hne) h0 h64 (hbstay hne)
        clear hp hb hw1 hw2 hend hstay hbstay hxi
        simp (disch := omega) only [if_pos, if_neg, w64, rdn, rd0, tn, sc, Option.bind_some, ↓reduceIte, Bool.false_eq_true, Bool.true_eq_false]
        exact hnx
    · have hne : distOf net net.length S i ≠ (n : Int) := fun g => e1 (hw2 i hil (dist_iff.1 g))
      have hnx := ih (i + 1) x x8 (by omega) (by omega) hx (hstay hne) h0 h64 (hbstay hne)
      clear hp hb hw1 hw2 hend hstay hbstay hxi
      simp (disch := omega) only [if_pos, if_neg, w64, rdn, rd0, tn, sc, Option.bind_some, ↓reduceIte, Bool.false_eq_true, Bool.true_eq_false]
      exact hnx
theorem impl_DistancesFrom_l1 (net : List Int) (hn : NetP net) (S : Nat → Prop) : ∀ (d n : Nat) (w : Int) (x : List Int), net.length + 1 - n = d → n ≤ net.length + 1 → x.length = net.length →
    (∀ p, p < net.length → G x p = soFar (distOf net net.length S p) (n : Int)) → 0 ≤ w → w < 64 → (∀ k, bitOf w k → k < net.length ∧ Rch net net.length S n k) → (∀ k, k < net.length → Dist net net.length S k n → bitOf w k) →
    (n = net.length + 1 → w = 0) → Ev (fun k => impl_DistancesFrom.l1 k net w x (n : Int)) (mk net.length (distOf net net.length S)) := by
  intro d
  have h6 := hn.2.1
  have hfin : ∀ (n : Nat) (w : Int) (x : List Int), x.length = net.length → (∀ p, p < net.length → G x p = soFar (distOf net net.length S p) (n : Int)) → (∀ k, k < net.length → Dist net net.length S k n → bitOf w k) → w = 0 → x = mk net.length (distOf net net.length S) := by
    intro n w x hx hp hw2 hw
    refine mk_eq_iff.2 ⟨hx, fun p hpl => ?_⟩
    rw [hp p hpl]
    refine soFar_end hpl (fun e he => ?_)
    apply Classical.byContradiction
    intro hge
    obtain ⟨j, hj, hd⟩ := dist_way hpl he n (by omega)
    have := hw2 j hj hd
    rw [hw] at this
    unfold bitOf at this
    simp at this
  induction d with
  | zero =>
    intro n w x hd hn1 hx hp h0 h64 hw1 hw2 hz
    have ew := hz (by omega)
    refine Ev.step (fun k => impl_DistancesFrom.l1.eq_2 ..) ?_
    have := hfin n w x hx hp hw2 ew
    simp only [ew, if_true]
    exact Ev.val this
  | succ d ih =>
    intro n w x hd hn1 hx hp h0 h64 hw1 hw2 hz
    refine Ev.step (fun k => impl_DistancesFrom.l1.eq_2 ..) ?_
    by_cases ew : w = 0
    · have := hfin n w x hx hp hw2 ew
      simp only [ew, if_true]
      exact Ev.val this
    · simp only [ew, if_false, hx]
      refine impl_DistancesFrom_l2 net hn S w n (by omega) (fun k hk hb => (hw1 k hb).2) hw2 _ (fun y w' hy hq h0' h64' hb' => ?_) _ 0 x 0 rfl (by omega) hx (fun p hpl => by rw [hp p hpl, if_neg (by omega)]) (by omega) (by omega) (fun k => ?_)
      · refine ih (n + 1) w' y (by omega) (by omega) hy hq h0' h64' (fun k hb => ?_) (fun k hk hd2 => ?_) (fun e => ?_)
        · obtain ⟨j, hj, h1, h2⟩ := (hb' k).1 hb
          exact ⟨adj_lt hn hj h2, Or.inr ⟨j, hj, h1.1, h2⟩⟩
        · obtain ⟨j, hj, h1, h2⟩ := dist_pred hd2
          exact (hb' k).2 ⟨j, hj, h1, h2⟩
        · refine bit_zero h0' h64' (fun k hb => ?_)
          obtain ⟨j, hj, h1, h2⟩ := (hb' k).1 hb
          have := dist_lt hj h1
          omega
      · constructor
        · intro g; unfold bitOf at g; simp at g
        · rintro ⟨j, hj, _⟩; omega
theorem impl_DistancesFrom_l0 (net : List Int) (set : Int) (h : SetP net set) : ∀ (d i : Nat) (x : List Int), net.length - i = d → i ≤ net.length → x.length = net.length → (∀ p, p < i → G x p = -1) →
    Ev (fun k => impl_DistancesFrom.l0 k net set x (net.length : Int) (i : Int)) (distRow net set) := by
  intro d
  have h6 := h.1.2.1
  have hb := set_lt64 h
  induction d with
  | zero =>
    intro i x hd hi hx hp
    refine Ev.step (fun k => impl_DistancesFrom.l0.eq_2 ..) ?_
    have hx1 := impl_DistancesFrom_l1 net h.1 (bitOf set) _ 0 set x rfl (by omega) hx (fun p hpl => by rw [hp p (by omega)]; unfold soFar; rw [if_neg (by omega)]) hb.1 hb.2 (fun k g => ⟨bit_lt h.2.1 h.2.2 g, g⟩) (fun k _ g => dist_zero.1 g) (fun g => by omega)
    simp (disch := omega) only [if_pos, if_neg, w64, rdn, rd0, tn, sc, Option.bind_some, ↓reduceIte, Bool.false_eq_true, Bool.true_eq_false]
    exact hx1
  | succ d ih =>
    intro i x hd hi hx hp
    refine Ev.step (fun k => impl_DistancesFrom.l0.eq_2 ..) ?_
    simp (disch := omega) only [if_pos, if_neg, w64, rdn, rd0, tn, sc, Option.bind_some, ↓reduceIte, Bool.false_eq_true, Bool.true_eq_false]
    refine ih (i + 1) _ (by omega) (by omega) (by simp [hx]) (fun p hpi => ?_)
    by_cases e : p = i
    · subst e; rw [G_set_self _ (by omega)]
    · rw [G_set_ne _ e]; exact hp p (by omega)
theorem impl_DistancesFrom_ev (net : List Int) (set : Int) (hl : net.length ≤ 1048576) : Ev (fun k => impl_DistancesFrom.f k net set) (distancesFrom net set) := by
  unfold impl_DistancesFrom.f
  refine Ev.bind (impl_setOk_ev net set hl) ?_
  by_cases h : SetP net set
  · rw [distancesFrom_yes h]
    have h6 := h.1.2.1
    simp only [h, decide_true, if_true]
    simp (disch := omega) only [if_pos, if_neg, w64, rdn, rd0, tn, sc, Option.bind_some, ↓reduceIte, Bool.false_eq_true, Bool.true_eq_false]
    simp only [List.length_replicate]
    exact impl_DistancesFrom_l0 net set h _ 0 _ rfl (by omega) (by simp) (fun p g => by omega)
  · rw [distancesFrom_no h]
    simp only [h, decide_false, Bool.false_eq_true, if_false]
    exact Ev.now _

-- needs Fire
/-- The greatest of 0 and the first n values. -/
def mxR (v : Nat → Int) : Nat → Int
  | 0 => 0
  | n + 1 => mxi (mxR v n) (v n)
theorem mxR_ge {v : Nat → Int} {n j : Nat} (h : j < n) : v j ≤ mxR v n := by
  induction n with
  | zero => omega
  | succ n ih =>
    simp only [mxR]
    by_cases e : j = n
    · subst e; exact le_mxi_right _ _
    · exact Int.le_trans (ih (by omega)) (le_mxi_left _ _)
theorem mxR_or (v : Nat → Int) (n : Nat) : mxR v n = 0 ∨ ∃ j, j < n ∧ mxR v n = v j := by
  induction n with
  | zero => exact Or.inl rfl
  | succ n ih =>
    simp only [mxR]
    rcases mxi_or (mxR v n) (v n) with h | h
    · rw [h]
      rcases ih with h1 | ⟨j, hj, h1⟩
      · exact Or.inl h1
      · exact Or.inr ⟨j, by omega, h1⟩
    · exact Or.inr ⟨n, by omega, h⟩
theorem wave_ends {net : List Int} {kinds set : Int} (hS : SetP net set) (h3 : 3 ≤ kinds) (h5 : kinds ≤ 5) (h0 : set ≠ 0) :
    ∃ M : Nat, mxR (G (distRow net set)) net.length = (M : Int) ∧ M ≤ 6 ∧ EndsP net kinds (lit net.length set) (M + kinds.toNat - 1) := by
  have hn := hS.1
  have h6 := hn.2.1
  have hx : ∃ i, i < net.length ∧ bitOf set i := by
    apply Classical.byContradiction
    intro hno
    have hb := set_lt64 hS
    exact h0 (bit_zero hb.1 hb.2 (fun k g => hno ⟨k, bit_lt hS.2.1 hS.2.2 g, g⟩))
  obtain ⟨i0, hi0, hb0⟩ := hx
  have hd0 : Dist net net.length (bitOf set) i0 0 := dist_zero.2 hb0
  have hM : ∃ (M : Nat) (p : Nat), mxR (G (distRow net set)) net.length = (M : Int) ∧ p < net.length ∧ Dist net net.length (bitOf set) p M := by
    rcases mxR_or (G (distRow net set)) net.length with e | ⟨j, hj, e⟩
    · exact ⟨0, i0, e, hi0, hd0⟩
    · have hge := mxR_ge (v := G (distRow net set)) hi0
      rw [G_distRow hi0, distOf_eq hd0] at hge
      rw [G_distRow hj] at e
      rcases distOf_cases net net.length (bitOf set) j with ⟨d, hd, e2⟩ | ⟨_, e2⟩
      · exact ⟨d, j, by rw [e, e2], hj, hd⟩
      · rw [e, e2] at hge; omega
  obtain ⟨M, p, hMe, hp, hdp⟩ := hM
  have hMl := dist_lt hp hdp
  refine ⟨M, hMe, by omega, fun i hi => ?_, fun u hu hr => ?_⟩
  · rw [fireN_length, lit_length] at hi
    have hw := wave_at (set := set) hn h3 h5 (M + kinds.toNat - 1) i hi
    by_cases hx : ∃ d, Dist net net.length (bitOf set) i d
    · obtain ⟨d, hd⟩ := hx
      rw [hw.1 d hd]
      have hle := mxR_ge (v := G (distRow net set)) hi
      rw [hMe, G_distRow hi, distOf_eq hd] at hle
      unfold waveKind
      rw [if_neg (by omega), if_neg (by omega)]
    · exact hw.2 hx
  · have key : ∀ q d, q < net.length → Dist net net.length (bitOf set) q d → d ≤ u → u + 1 < d + kinds.toNat → False := by
      intro q d hq hd h1 h2
      have hz := hr q (by rw [fireN_length, lit_length]; exact hq)
      rw [(wave_at (set := set) hn h3 h5 u q hq).1 d hd] at hz
      unfold waveKind at hz
      rw [if_neg (by omega), if_pos (by omega)] at hz
      omega
    by_cases e : u ≤ M
    · obtain ⟨j, hj, hdj⟩ := dist_way hp hdp u e
      exact key j u hj hdj (Nat.le_refl _) (by omega)
    · exact key p M hp hdp (by omega) (by omega)
theorem FnWaveEnd_l0 (net : List Int) (kinds set : Int) (hS : SetP net set) (h3 : 3 ≤ kinds) (h5 : kinds ≤ 5) (M : Nat) (hM : mxR (G (distRow net set)) net.length = (M : Int)) (hM6 : M ≤ 6) : ∀ (d i : Nat), i + d = net.length →
    Ev (fun k => laws_FnWaveEnd.l0 k kinds ((M + kinds.toNat - 1 : Nat) : Int) (distRow net set) (mxR (G (distRow net set)) i) (i : Int)) true := by
  intro d
  have h6 := hS.1.2.1
  have hL := distRow_length net set
  induction d with
  | zero =>
    intro i hd
    have e : i = net.length := by omega
    subst e
    refine Ev.step (fun k => laws_FnWaveEnd.l0.eq_2 ..) ?_
    simp only [hL, show ¬ (net.length : Int) < (net.length : Int) by omega, if_false, hM]
    refine Ev.val ?_
    rw [beq_iff_eq, w64 (n := (M : Int) + kinds) (by omega) (by omega), w64 (by omega) (by omega)]
    omega
  | succ d ih =>
    intro i hd
    have hn := ih (i + 1) (by omega)
    refine Ev.step (fun k => laws_FnWaveEnd.l0.eq_2 ..) ?_
    have hmx : mx (mxR (G (distRow net set)) i) (G (distRow net set) i) = mxR (G (distRow net set)) (i + 1) := rfl
    simp only [rdn, hmx]
    clear hM hmx
    simp (disch := omega) only [if_pos, if_neg, w64, rdn, rd0, tn, sc, Option.bind_some, ↓reduceIte, Bool.false_eq_true, Bool.true_eq_false]
    exact hn
theorem FnWaveEnd : laws_FnWaveEnd.Pure := by
  intro l _ _ hwf
  refine Ev.rounds (r := true) ?_
  obtain ⟨net, kinds, set, hr, h6⟩ := DrawWaveEnd_ev l hwf
  unfold laws_FnWaveEnd.f
  by_cases hl : l.length ≤ 1048576
  · simp only [show ¬ (l.length : Int) > 1048576 by omega, if_false]
    refine Ev.bind hr ?_
    refine Ev.bind (impl_WaveEnd_ev net kinds set (by omega)) ?_
    refine Ev.bind (spec_WaveEnd_ev net kinds set (by omega)) ?_
    simp only [if_true]
    have hneg : waveEnd net kinds set = -1 → Ev (fun k => if waveEnd net kinds set < 0 then (if waveEnd net kinds set = (-1) then ((laws_alive.f k).bind fun t => (some t)) else (some false)) else (if set = 0 then (if waveEnd net kinds set = 0 then ((laws_alive.f k).bind fun t => (some t)) else (some false)) else ((impl_DistancesFrom.f k net set).bind fun t => (laws_FnWaveEnd.l0 k kinds (waveEnd net kinds set) t 0 0)))) true := by
      intro e
      rw [e]
      simp only [show ((-1 : Int) < 0) by decide, if_true]
      refine Ev.bind alive_ev ?_
      exact Ev.now _
    by_cases hS : SetP net set
    · have e : waveEnd net kinds set = endsAt net kinds (lit net.length set) := if_pos hS
      by_cases h3 : 3 ≤ kinds ∧ kinds ≤ 5
      · have hA := lit_asked (set := set) hS.1 h3.1 h3.2
        by_cases h0 : set = 0
        · have hz : EndsP net kinds (lit net.length set) 0 := ⟨fun i hi => by
            rw [fireN, lit_length] at hi
            rw [fireN, G_lit hi, h0]; simp, fun u hu => by omega⟩
          rw [e, endsAt_eq hA hz]
          have e0 : ((0 : Nat) : Int) = 0 := rfl
          simp only [e0, show ¬ ((0 : Int) < 0) by decide, if_false, h0, if_true]
          refine Ev.bind alive_ev ?_
          exact Ev.now _
        · obtain ⟨M, hM, hM6, hE⟩ := wave_ends hS h3.1 h3.2 h0
          rw [e, endsAt_eq hA hE]
          simp only [show ¬ (((M + kinds.toNat - 1 : Nat) : Int) < 0) by omega, if_false, h0]
          refine Ev.bind (impl_DistancesFrom_ev net set (by omega)) ?_
          rw [distancesFrom_yes hS]
          exact FnWaveEnd_l0 net kinds set hS h3.1 h3.2 M hM hM6 net.length 0 (by omega)
      · exact hneg (by rw [e]; exact lit_not h3)
    · exact hneg (if_neg hS)
  · simp (disch := omega) only [if_pos, if_neg, w64, rdn, rd0, tn, sc, Option.bind_some, ↓reduceIte, Bool.false_eq_true, Bool.true_eq_false]
    exact Ev.now _

end Go.Proofs.Ytbbafjmfdbjkaaa.Pure
