/- Proved: the statement FnTwoWaves, for every input, without further conditions. -/
import Derived.Test.YtcjjiajcjooccaaPFnTwoWavesx9
import Derived.Test.YtcjjiajcjooccaaBase
import Derived.Test.YtcjjiajcjooccaaFire
namespace Go.Proofs.Ytcjjiajcjooccaa.Pure
open Go.RowKit Go.Proofs.Ytcjjiajcjooccaa.PFnTwoWaves Go.Proofs.YtcjjiajcjooccaaW.PrintWords Go.Proofs.YtcjjiajcjooccaaW.PrintLast Go.Proofs.Ytcjjiajcjooccaa.B Go.Proofs.Ytcjjiajcjooccaa.C
set_option linter.unusedSimpArgs false
set_option linter.unusedVariables false

theorem impl_NetOk_l1 (l : List Int) (h6 : l.length ≤ 6) (i : Nat) (hi : i < l.length) (r : Bool)
    (hbad : ∀ k, k < l.length → ¬ (adj l i k ↔ adj l k i) → r = false)
    (hgood : (∀ k, k < l.length → (adj l i k ↔ adj l k i)) → Ev (fun k => impl_NetOk.l0 k l l (l.length : Int) ((i + 1 : Nat) : Int)) r) :
    ∀ (d : Nat) (j : Nat), l.length - j = d → j ≤ l.length → (∀ k, k < j → (adj l i k ↔ adj l k i)) →
      Ev (fun k => impl_NetOk.l1 k l (i : Int) (G l i) l (l.length : Int) (i : Int) (l.length : Int) (j : Int)) r := by
  intro d
  induction d with
  | zero =>
    intro j hd hj hk
    refine Ev.step (fun k => impl_NetOk.l1.eq_2 ..) ?_
    simp (disch := omega) only [if_pos, if_neg, w64, rdn, rd0, tn, sc, Option.bind_some, ↓reduceIte, Bool.false_eq_true, Bool.true_eq_false]
    exact hgood (fun k hkl => hk k (by omega))
  | succ d ih =>
    intro j hd hj hk
    refine Ev.step (fun k => impl_NetOk.l1.eq_2 ..) ?_
    have b1 := bit_and (G l i) (j := j) (by omega)
    have b2 := bit_and (G l j) (j := i) (by omega)
    have m1 := Int.emod_two_eq (G l i / 2 ^ j)
    have m2 := Int.emod_two_eq (G l j / 2 ^ i)
    by_cases e : adj l i j ↔ adj l j i
    · have e' : G l i / 2 ^ j % 2 = G l j / 2 ^ i % 2 := by
        unfold adj at e
        by_cases c : G l i / 2 ^ j % 2 = 1
        · rw [c, e.1 c]
        · have c2 := fun h => c (e.2 h)
          omega
      simp only [rdn, b1, b2]
      simp (disch := omega) only [if_pos, if_neg, w64, rdn, rd0, tn, sc, Option.bind_some, ↓reduceIte, Bool.false_eq_true, Bool.true_eq_false]
      refine ih _ (by omega) (by omega) ?_
      intro k hkj
      by_cases e' : k = j
      · subst e'; exact e
      · exact hk k (by omega)
    · have e' : ¬ G l i / 2 ^ j % 2 = G l j / 2 ^ i % 2 := by
        intro h
        apply e
        unfold adj
        rw [h]
      simp only [rdn, b1, b2]
      simp (disch := omega) only [if_pos, if_neg, w64, rdn, rd0, tn, sc, Option.bind_some, ↓reduceIte, Bool.false_eq_true, Bool.true_eq_false]
      exact Ev.val (hbad j (by omega) e).symm
theorem impl_NetOk_l0 (l : List Int) (h1 : 1 ≤ l.length) (h6 : l.length ≤ 6) : ∀ (d : Nat) (i : Nat), l.length - i = d → i ≤ l.length →
    (∀ j, j < i → (0 ≤ G l j ∧ G l j < 2 ^ l.length ∧ ¬ adj l j j ∧ ∀ k, k < l.length → (adj l j k ↔ adj l k j))) → Ev (fun k => impl_NetOk.l0 k l l (l.length : Int) (i : Int)) (decide (NetP l)) := by
  intro d
  induction d with
  | zero =>
    intro i hd hi hj
    refine Ev.step (fun k => impl_NetOk.l0.eq_2 ..) ?_
    simp (disch := omega) only [if_pos, if_neg, w64, rdn, rd0, tn, sc, Option.bind_some, ↓reduceIte, Bool.false_eq_true, Bool.true_eq_false]
    have : NetP l := ⟨h1, h6, fun j h => hj j (by omega)⟩
    exact Ev.val (by simp [this])
  | succ d ih =>
    intro i hd hi hj
    refine Ev.step (fun k => impl_NetOk.l0.eq_2 ..) ?_
    have hs := shl1 (n := l.length) (by omega)
    have hb := bit_and (G l i) (j := i) (by omega)
    simp only [rdn, hs, hb]
    have bad : ¬ (0 ≤ G l i ∧ G l i < 2 ^ l.length ∧ ¬ adj l i i) → decide (NetP l) = false := by
      intro h
      have : ¬ NetP l := fun p => h ⟨(p.2.2 i (by omega)).1, (p.2.2 i (by omega)).2.1, (p.2.2 i (by omega)).2.2.1⟩
      simp [this]
    by_cases e0 : G l i < 0
    · simp (disch := omega) only [if_pos, if_neg, w64, rdn, rd0, tn, sc, Option.bind_some, ↓reduceIte, Bool.false_eq_true, Bool.true_eq_false]
      refine Ev.step (fun k => impl_NetOk.j2.eq_2 ..) ?_
      simp (disch := omega) only [if_pos, if_neg, w64, rdn, rd0, tn, sc, Option.bind_some, ↓reduceIte, Bool.false_eq_true, Bool.true_eq_false]
      exact Ev.val (bad (by omega)).symm
    · by_cases e1 : G l i ≥ 2 ^ l.length
      · simp (disch := omega) only [if_pos, if_neg, w64, rdn, rd0, tn, sc, Option.bind_some, ↓reduceIte, Bool.false_eq_true, Bool.true_eq_false]
        refine Ev.step (fun k => impl_NetOk.j2.eq_2 ..) ?_
        simp (disch := omega) only [if_pos, if_neg, w64, rdn, rd0, tn, sc, Option.bind_some, ↓reduceIte, Bool.false_eq_true, Bool.true_eq_false]
        exact Ev.val (bad (by omega)).symm
      · simp (disch := omega) only [if_pos, if_neg, w64, rdn, rd0, tn, sc, Option.bind_some, ↓reduceIte, Bool.false_eq_true, Bool.true_eq_false]
        refine Ev.step (fun k => impl_NetOk.j2.eq_2 ..) ?_
        by_cases e2 : G l i / 2 ^ i % 2 = 1
        · have e3 : (G l i / 2 ^ i % 2 == 1) = true := by simp [e2]
          simp only [e3]
          simp (disch := omega) only [if_pos, if_neg, w64, rdn, rd0, tn, sc, Option.bind_some, ↓reduceIte, Bool.false_eq_true, Bool.true_eq_false]
          exact Ev.val (bad (fun h => h.2.2 e2)).symm
        · have e3 : (G l i / 2 ^ i % 2 == 1) = false := by simp [e2]
          simp only [e3]
          simp (disch := omega) only [if_pos, if_neg, w64, rdn, rd0, tn, sc, Option.bind_some, ↓reduceIte, Bool.false_eq_true, Bool.true_eq_false]
          refine impl_NetOk_l1 l h6 i (by omega) _ ?_ ?_ _ 0 rfl (by omega) (fun k h => by omega)
          · intro k hk hn
            have : ¬ NetP l := fun p => hn ((p.2.2 i (by omega)).2.2.2 k hk)
            simp [this]
          · intro hall
            refine ih _ (by omega) (by omega) ?_
            intro j hji
            by_cases e' : j = i
            · subst e'; exact ⟨by omega, by omega, e2, hall⟩
            · exact hj j (by omega)
theorem impl_NetOk_ev (l : List Int) (hl : l.length ≤ 1048576) : Ev (fun k => impl_NetOk.f k l) (decide (NetP l)) := by
  unfold impl_NetOk.f
  by_cases h1 : l.length < 1
  · simp (disch := omega) only [if_pos, if_neg, w64, rdn, rd0, tn, sc, Option.bind_some, ↓reduceIte, Bool.false_eq_true, Bool.true_eq_false]
    refine Ev.step (fun k => impl_NetOk.j0.eq_2 ..) ?_
    simp (disch := omega) only [if_pos, if_neg, w64, rdn, rd0, tn, sc, Option.bind_some, ↓reduceIte, Bool.false_eq_true, Bool.true_eq_false]
    have : ¬ NetP l := fun p => by have := p.1; omega
    exact Ev.val (by simp [this])
  · simp (disch := omega) only [if_pos, if_neg, w64, rdn, rd0, tn, sc, Option.bind_some, ↓reduceIte, Bool.false_eq_true, Bool.true_eq_false]
    refine Ev.step (fun k => impl_NetOk.j0.eq_2 ..) ?_
    by_cases h6 : l.length > 6
    · have : decide ((l.length : Int) > 6) = true := by simp; omega
      simp only [this]
      simp (disch := omega) only [if_pos, if_neg, w64, rdn, rd0, tn, sc, Option.bind_some, ↓reduceIte, Bool.false_eq_true, Bool.true_eq_false]
      have : ¬ NetP l := fun p => by have := p.2.1; omega
      exact Ev.val (by simp [this])
    · have : decide ((l.length : Int) > 6) = false := by simp; omega
      simp only [this]
      simp (disch := omega) only [if_pos, if_neg, w64, rdn, rd0, tn, sc, Option.bind_some, ↓reduceIte, Bool.false_eq_true, Bool.true_eq_false]
      exact impl_NetOk_l0 l (by omega) (by omega) _ 0 rfl (by omega) (fun j h => by omega)

theorem alive_ev : Ev (fun k => laws_alive.f k) true := by
  unfold laws_alive.f
  refine Ev.bind (impl_NetOk_ev _ (by decide)) ?_
  have e1 : decide (NetP [2, 1]) = true := by decide
  simp only [e1]
  simp (disch := omega) only [if_pos, if_neg, w64, rdn, rd0, tn, sc, Option.bind_some, ↓reduceIte, Bool.false_eq_true, Bool.true_eq_false]
  refine Ev.bind (impl_NetOk_ev _ (by decide)) ?_
  have e2 : decide (NetP [1]) = false := by decide
  simp only [e2, Bool.not_false]
  exact Ev.now _

/-- A reader's bytes. -/
def RdOk (b : List Int) : Prop := b.length ≤ 2000 ∧ ∀ i, 0 ≤ G b i ∧ G b i ≤ 255
theorem spec_l20Open_eq (l : List Int) (h : ∀ x ∈ l, (Lit.int .u8 x).wf = true) : ∃ b, spec_l20Open.f l = some (b, 0) ∧ RdOk b := by
  have hl : ∀ i, 0 ≤ G l i ∧ G l i ≤ 255 := by
    intro i
    by_cases e : i < l.length
    · exact wf_u8.1 (h _ (G_mem e))
    · rw [G_of_ge (by omega)]; omega
  unfold spec_l20Open.f
  by_cases e : l.length > 2000
  · simp (disch := omega) only [if_pos, if_neg, w64, rdn, rd0, tn, sc, Option.bind_some, ↓reduceIte, Bool.false_eq_true, Bool.true_eq_false]
    refine ⟨_, rfl, by simp; omega, fun i => ?_⟩
    by_cases ei : i < 2000
    · rw [G_take ei]; exact hl i
    · rw [G_of_ge (by simp; omega)]; omega
  · simp (disch := omega) only [if_pos, if_neg, w64, rdn, rd0, tn, sc, Option.bind_some, ↓reduceIte, Bool.false_eq_true, Bool.true_eq_false]
    exact ⟨_, rfl, by omega, hl⟩

theorem xor_nn {a b : Int} (ha : 0 ≤ a) (ha' : a < 4611686018427387904) (hb : 0 ≤ b) (hb' : b < 4611686018427387904) : 0 ≤ Go.bits .xor .i64 a b := by
  obtain ⟨m, rfl⟩ := Int.eq_ofNat_of_zero_le ha
  obtain ⟨n, rfl⟩ := Int.eq_ofNat_of_zero_le hb
  show 0 ≤ IntKind.i64.wrap (((BitVec.ofInt 64 (m : Int) ^^^ BitVec.ofInt 64 (n : Int)).toNat : Nat) : Int)
  have hx : (BitVec.ofInt 64 (m : Int) ^^^ BitVec.ofInt 64 (n : Int)).toNat < 2 ^ 62 := by
    rw [BitVec.toNat_xor]
    apply Nat.xor_lt_two_pow
    · rw [BitVec.ofInt_natCast, BitVec.toNat_ofNat, Nat.mod_eq_of_lt (by omega)]; omega
    · rw [BitVec.ofInt_natCast, BitVec.toNat_ofNat, Nat.mod_eq_of_lt (by omega)]; omega
  rw [i64_w, w64 (by omega) (by omega)]; omega
theorem pick_ev (b : List Int) (hb : RdOk b) (p n : Int) (hp : 0 ≤ p) (hp2 : p ≤ 1000000) (hn : n ≤ 1000000) :
    ∃ v, Ev (fun k => spec_l20Rd_pick.f k b p n) (v, p + 1) ∧ 0 ≤ v ∧ (1 ≤ n → v < n) ∧ (n < 1 → v = 0) := by
  obtain ⟨q, rfl⟩ := Int.eq_ofNat_of_zero_le hp
  unfold spec_l20Rd_pick.f
  have hw : wrap64 ((q : Int) + 1) = (q : Int) + 1 := w64 (by omega) (by omega)
  have hw2 : wrap64 ((q : Int) + 1 - 1) = (q : Int) := by rw [w64 (by omega) (by omega)]; omega
  by_cases h1 : n < 1
  · refine ⟨0, ?_, by omega, fun h => by omega, fun _ => rfl⟩
    simp only [hw]
    rw [show (fun k => if n < 1 then spec_l20Rd_pick.j0 k n true b ((q : Int) + 1) else spec_l20Rd_pick.j0 k n ((b.length : Int) == 0) b ((q : Int) + 1)) = (fun k => spec_l20Rd_pick.j0 k n true b ((q : Int) + 1)) from funext fun k => if_pos h1]
    refine Ev.step (fun k => spec_l20Rd_pick.j0.eq_2 ..) ?_
    simp only [↓reduceIte]
    exact Ev.now _
  · simp only [hw]
    rw [show (fun k => if n < 1 then spec_l20Rd_pick.j0 k n true b ((q : Int) + 1) else spec_l20Rd_pick.j0 k n ((b.length : Int) == 0) b ((q : Int) + 1)) = (fun k => spec_l20Rd_pick.j0 k n ((b.length : Int) == 0) b ((q : Int) + 1)) from funext fun k => if_neg h1]
    by_cases h0 : b.length = 0
    · refine ⟨0, ?_, by omega, fun h => by omega, fun _ => rfl⟩
      have : ((b.length : Int) == 0) = true := beq_iff_eq.2 (by omega)
      rw [this]
      refine Ev.step (fun k => spec_l20Rd_pick.j0.eq_2 ..) ?_
      simp only [↓reduceIte]
      exact Ev.now _
    · have hz : ((b.length : Int) == 0) = false := beq_eq_false_iff_ne.2 (by omega)
      rw [hz]
      by_cases hq : q < b.length
      · have hg := hb.2 q
        have hwg : wrap64 (G b q) = G b q := w64 (by omega) (by omega)
        refine ⟨G b q % n, ?_, Int.emod_nonneg _ (by omega), fun h => Int.emod_lt_of_pos _ (by omega), fun h => absurd h h1⟩
        refine Ev.step (fun k => spec_l20Rd_pick.j0.eq_2 ..) ?_
        simp only [hw2, rdn, hwg]
        rw [tmod_nn hg.1]
        simp (disch := omega) only [if_pos, if_neg, w64, rdn, rd0, tn, sc, Option.bind_some, ↓reduceIte, Bool.false_eq_true, Bool.true_eq_false]
        exact Ev.now _
      · have hL := hb.1
        have hm1 : q % b.length < b.length := Nat.mod_lt _ (by omega)
        have hm2 : (q * 7 + 3) % b.length < b.length := Nat.mod_lt _ (by omega)
        have e1 : Int.tmod (q : Int) (b.length : Int) = ((q % b.length : Nat) : Int) := by rw [tmod_nn (by omega)]; rfl
        have e2 : wrap64 (wrap64 ((q : Int) * 7) + 3) = ((q * 7 + 3 : Nat) : Int) := by rw [w64 (n := (q : Int) * 7) (by omega) (by omega), w64 (by omega) (by omega)]; omega
        have e3 : Int.tmod ((q * 7 + 3 : Nat) : Int) (b.length : Int) = (((q * 7 + 3) % b.length : Nat) : Int) := by rw [tmod_nn (by omega)]; rfl
        obtain ⟨Q, hQ⟩ : ∃ Q, Q = q / b.length := ⟨_, rfl⟩
        have hd : Q ≤ q := by rw [hQ]; exact Nat.div_le_self _ _
        have e4 : Int.tdiv (q : Int) (b.length : Int) = (Q : Int) := by rw [tdiv_nn (by omega), hQ]; rfl
        clear hQ
        have g1 := hb.2 (q % b.length)
        have g2 := hb.2 ((q * 7 + 3) % b.length)
        have f1 : wrap64 (wrap64 (G b (q % b.length)) * 131) = G b (q % b.length) * 131 := by rw [w64 (n := G b (q % b.length)) (by omega) (by omega), w64 (by omega) (by omega)]
        have f2 : wrap64 (wrap64 (G b ((q * 7 + 3) % b.length)) * 1117) = G b ((q * 7 + 3) % b.length) * 1117 := by rw [w64 (n := G b ((q * 7 + 3) % b.length)) (by omega) (by omega), w64 (by omega) (by omega)]
        have f3 : wrap64 ((q : Int) * 29) = (q : Int) * 29 := w64 (by omega) (by omega)
        have f4 : wrap64 (wrap64 ((Q : Int)) * 53) = (Q : Int) * 53 := by rw [w64 (n := (Q : Int)) (by omega) (by omega), w64 (by omega) (by omega)]
        have f5 : wrap64 (G b (q % b.length) * 131 + G b ((q * 7 + 3) % b.length) * 1117) = G b (q % b.length) * 131 + G b ((q * 7 + 3) % b.length) * 1117 := w64 (by omega) (by omega)
        have f6 : wrap64 (G b (q % b.length) * 131 + G b ((q * 7 + 3) % b.length) * 1117 + (q : Int) * 29) = G b (q % b.length) * 131 + G b ((q * 7 + 3) % b.length) * 1117 + (q : Int) * 29 := w64 (by omega) (by omega)
        have f7 : wrap64 (G b (q % b.length) * 131 + G b ((q * 7 + 3) % b.length) * 1117 + (q : Int) * 29 + (Q : Int) * 53) = G b (q % b.length) * 131 + G b ((q * 7 + 3) % b.length) * 1117 + (q : Int) * 29 + (Q : Int) * 53 := w64 (by omega) (by omega)
        obtain ⟨X, hX⟩ : ∃ X, X = G b (q % b.length) * 131 + G b ((q * 7 + 3) % b.length) * 1117 + (q : Int) * 29 + (Q : Int) * 53 := ⟨_, rfl⟩
        have hX0 : 0 ≤ X := by omega
        have hX1 : X < 4611686018427387904 := by omega
        have f8 : wrap64 (Int.tdiv X 64) = X / 64 := by rw [tdiv_nn hX0, w64 (by omega) (by omega)]
        have f9 : wrap64 X = X := w64 (by omega) (by omega)
        have hx := xor_nn hX0 hX1 (b := X / 64) (by omega) (by omega)
        refine ⟨Go.bits .xor .i64 X (X / 64) % n, ?_, Int.emod_nonneg _ (by omega), fun h => Int.emod_lt_of_pos _ (by omega), fun h => absurd h h1⟩
        refine Ev.step (fun k => spec_l20Rd_pick.j0.eq_2 ..) ?_
        simp only [hw2, e1, e2, e3, e4, rdn, f1, f2, f3, f4, f5, f6, f7, ← hX, f9, f8]
        rw [tmod_nn hx]
        simp (disch := omega) only [if_pos, if_neg, w64, rdn, rd0, tn, sc, Option.bind_some, ↓reduceIte, Bool.false_eq_true, Bool.true_eq_false]
        exact Ev.now _

theorem spec_l1In_eq (a b c : Int) : spec_l1In.f a b c = some (decide (b ≤ a ∧ a ≤ c)) := by
  unfold spec_l1In.f
  by_cases h : b ≤ a <;> simp [h]

theorem RingNet_l0 (n : Nat) (h1 : 3 ≤ n) (h6 : n ≤ 6) : ∀ (d i : Nat) (x : List Int), n - i = d → i ≤ n → x.length = i → ∃ r, Ev (fun k => spec_RingNet.l0 k (n : Int) x (i : Int)) r ∧ r.length = n := by
  intro d
  induction d with
  | zero =>
    intro i x hd hi hx
    refine ⟨x, ?_, by omega⟩
    refine Ev.step (fun k => spec_RingNet.l0.eq_2 ..) ?_
    simp (disch := omega) only [if_pos, if_neg, w64, rdn, rd0, tn, sc, Option.bind_some, ↓reduceIte, Bool.false_eq_true, Bool.true_eq_false]
    exact Ev.now _
  | succ d ih =>
    intro i x hd hi hx
    have e1 : spec_l1In.f (n : Int) 3 6 = some true := by rw [spec_l1In_eq]; simp; omega
    have hw0 : wrap64 ((i : Int) + 1) = ((i + 1 : Nat) : Int) := by rw [w64 (by omega) (by omega)]; rfl
    have hw1 : wrap64 (wrap64 ((i : Int) + (n : Int)) - 1) = ((i + n - 1 : Nat) : Int) := by
      rw [w64 (n := (i : Int) + (n : Int)) (by omega) (by omega), w64 (by omega) (by omega)]; omega
    have hm0 : Int.tmod ((i + 1 : Nat) : Int) (n : Int) = (((i + 1) % n : Nat) : Int) := by rw [tmod_nn (by omega)]; rfl
    have hm1 : Int.tmod ((i + n - 1 : Nat) : Int) (n : Int) = (((i + n - 1) % n : Nat) : Int) := by rw [tmod_nn (by omega)]; rfl
    obtain ⟨r, hr, hl⟩ := ih (i + 1) (x ++ [Go.bits .or .i64 (shl .i64 1 (((i + 1) % n : Nat) : Int)) (shl .i64 1 (((i + n - 1) % n : Nat) : Int))]) (by omega) (by omega) (by simp [hx])
    refine ⟨r, ?_, hl⟩
    refine Ev.step (fun k => spec_RingNet.l0.eq_2 ..) ?_
    simp only [hw0, hw1, hm0, hm1, e1, Option.bind_some]
    clear hw0 hw1 hm0 hm1 e1
    simp (disch := omega) only [if_pos, if_neg, w64, rdn, rd0, tn, sc, Option.bind_some, ↓reduceIte, Bool.false_eq_true, Bool.true_eq_false]
    exact hr
theorem RingNet_ev (n : Nat) (h1 : 3 ≤ n) (h6 : n ≤ 6) : ∃ r, Ev (fun k => spec_RingNet.f k (n : Int)) r ∧ r.length = n := by
  unfold spec_RingNet.f
  exact RingNet_l0 n h1 h6 _ 0 [] rfl (by omega) rfl

theorem odd_ev (b : List Int) (hb : RdOk b) (p n : Int) (hp : 0 ≤ p) (hp2 : p ≤ 1000000) (hn : n ≤ 1000000) :
    ∃ c p', Ev (fun k => spec_l20Rd_odd.f k b p n) (c, p') ∧ p ≤ p' ∧ p' ≤ p + 1 ∧ (n ≤ 0 → c = false) := by
  unfold spec_l20Rd_odd.f
  by_cases h : n > 0
  · obtain ⟨v, hv, _⟩ := pick_ev b hb p n hp hp2 hn
    refine ⟨v == wrap64 (n - 1), p + 1, ?_, by omega, by omega, fun h' => by omega⟩
    simp (disch := omega) only [if_pos, if_neg, w64, rdn, rd0, tn, sc, Option.bind_some, ↓reduceIte, Bool.false_eq_true, Bool.true_eq_false]
    refine Ev.bind hv ?_
    exact Ev.now _
  · refine ⟨false, p, ?_, by omega, by omega, fun _ => rfl⟩
    simp (disch := omega) only [if_pos, if_neg, w64, rdn, rd0, tn, sc, Option.bind_some, ↓reduceIte, Bool.false_eq_true, Bool.true_eq_false]
    exact Ev.now _

theorem PathNet_l0 (n : Nat) (h1 : 1 ≤ n) (h6 : n ≤ 6) : ∀ (d i : Nat) (x : List Int), n - i = d → i ≤ n → x.length = i → ∃ r, Ev (fun k => spec_PathNet.l0 k (n : Int) x (i : Int)) r ∧ r.length = n := by
  intro d
  induction d with
  | zero =>
    intro i x hd hi hx
    refine ⟨x, ?_, by omega⟩
    refine Ev.step (fun k => spec_PathNet.l0.eq_2 ..) ?_
    simp (disch := omega) only [if_pos, if_neg, w64, rdn, rd0, tn, sc, Option.bind_some, ↓reduceIte, Bool.false_eq_true, Bool.true_eq_false]
    refine Ev.step (fun k => spec_PathNet.j1.eq_2 ..) ?_
    simp (disch := omega) only [if_pos, if_neg, w64, rdn, rd0, tn, sc, Option.bind_some, ↓reduceIte, Bool.false_eq_true, Bool.true_eq_false]
    exact Ev.now _
  | succ d ih =>
    intro i x hd hi hx
    have e1 : spec_l1In.f (n : Int) 1 6 = some true := by rw [spec_l1In_eq]; simp; omega
    have hw0 : wrap64 ((i : Int) + 1) = ((i + 1 : Nat) : Int) := by rw [w64 (by omega) (by omega)]; rfl
    have next : ∀ v, ∃ r, Ev (fun k => spec_PathNet.l0 k (n : Int) (x ++ [v]) ((i + 1 : Nat) : Int)) r ∧ r.length = n := fun v => ih (i + 1) _ (by omega) (by omega) (by simp [hx])
    by_cases hi0 : 0 < i
    · have hw : wrap64 ((i : Int) - 1) = ((i - 1 : Nat) : Int) := by rw [w64 (by omega) (by omega)]; omega
      by_cases hn : i + 1 < n
      · obtain ⟨r, hr, hl⟩ := next (Go.bits .or .i64 (Go.bits .or .i64 0 (shl .i64 1 ((i - 1 : Nat) : Int))) (shl .i64 1 ((i + 1 : Nat) : Int)))
        refine ⟨r, ?_, hl⟩
        refine Ev.step (fun k => spec_PathNet.l0.eq_2 ..) ?_
        simp (disch := omega) only [if_pos, if_neg, w64, rdn, rd0, tn, sc, Option.bind_some, ↓reduceIte, Bool.false_eq_true, Bool.true_eq_false]
        simp only [e1, Option.bind_some]
        refine Ev.step (fun k => spec_PathNet.j1.eq_2 ..) ?_
        simp only [hw, hw0]
        simp (disch := omega) only [if_pos, if_neg, w64, rdn, rd0, tn, sc, Option.bind_some, ↓reduceIte, Bool.false_eq_true, Bool.true_eq_false]
        exact hr
      · obtain ⟨r, hr, hl⟩ := next (Go.bits .or .i64 0 (shl .i64 1 ((i - 1 : Nat) : Int)))
        refine ⟨r, ?_, hl⟩
        refine Ev.step (fun k => spec_PathNet.l0.eq_2 ..) ?_
        simp (disch := omega) only [if_pos, if_neg, w64, rdn, rd0, tn, sc, Option.bind_some, ↓reduceIte, Bool.false_eq_true, Bool.true_eq_false]
        simp only [e1, Option.bind_some]
        refine Ev.step (fun k => spec_PathNet.j1.eq_2 ..) ?_
        simp only [hw, hw0]
        simp (disch := omega) only [if_pos, if_neg, w64, rdn, rd0, tn, sc, Option.bind_some, ↓reduceIte, Bool.false_eq_true, Bool.true_eq_false]
        exact hr
    · by_cases hn : i + 1 < n
      · obtain ⟨r, hr, hl⟩ := next (Go.bits .or .i64 0 (shl .i64 1 ((i + 1 : Nat) : Int)))
        refine ⟨r, ?_, hl⟩
        refine Ev.step (fun k => spec_PathNet.l0.eq_2 ..) ?_
        simp (disch := omega) only [if_pos, if_neg, w64, rdn, rd0, tn, sc, Option.bind_some, ↓reduceIte, Bool.false_eq_true, Bool.true_eq_false]
        simp only [e1, Option.bind_some]
        refine Ev.step (fun k => spec_PathNet.j1.eq_2 ..) ?_
        simp only [hw0]
        simp (disch := omega) only [if_pos, if_neg, w64, rdn, rd0, tn, sc, Option.bind_some, ↓reduceIte, Bool.false_eq_true, Bool.true_eq_false]
        exact hr
      · obtain ⟨r, hr, hl⟩ := next 0
        refine ⟨r, ?_, hl⟩
        refine Ev.step (fun k => spec_PathNet.l0.eq_2 ..) ?_
        simp (disch := omega) only [if_pos, if_neg, w64, rdn, rd0, tn, sc, Option.bind_some, ↓reduceIte, Bool.false_eq_true, Bool.true_eq_false]
        simp only [e1, Option.bind_some]
        refine Ev.step (fun k => spec_PathNet.j1.eq_2 ..) ?_
        simp only [hw0]
        simp (disch := omega) only [if_pos, if_neg, w64, rdn, rd0, tn, sc, Option.bind_some, ↓reduceIte, Bool.false_eq_true, Bool.true_eq_false]
        exact hr
theorem PathNet_ev (n : Nat) (h1 : 1 ≤ n) (h6 : n ≤ 6) : ∃ r, Ev (fun k => spec_PathNet.f k (n : Int)) r ∧ r.length = n := by
  unfold spec_PathNet.f
  exact PathNet_l0 n h1 h6 _ 0 [] rfl (by omega) rfl

theorem l20Net_l0 (b : List Int) (hb : RdOk b) (n : Int) (hn : n ≤ 1000000) (nodes : Nat) (h1 : 1 ≤ nodes) (h6 : nodes ≤ 6) : ∀ (d : Nat) (x : List Int) (p : Int), x.length = nodes → 0 ≤ p → p ≤ 10000 - 2 * d →
    ∃ r p', Ev (fun k => spec_l20Net.l0 k n (nodes : Int) x (d : Int) b p) (r, p') ∧ p ≤ p' ∧ p' ≤ p + 2 * d + 2 ∧ r.length ≤ 6 := by
  intro d
  induction d with
  | zero =>
    intro x p hx hp hp2
    obtain ⟨c, p1, hc, hc1, hc2, _⟩ := odd_ev b hb p n hp (by omega) hn
    cases c with
    | false =>
      refine ⟨x, p1, ?_, by omega, by omega, by omega⟩
      refine Ev.step (fun k => spec_l20Net.l0.eq_2 ..) ?_
      simp (disch := omega) only [if_pos, if_neg, w64, rdn, rd0, tn, sc, Option.bind_some, ↓reduceIte, Bool.false_eq_true, Bool.true_eq_false]
      refine Ev.bind hc ?_
      simp (disch := omega) only [if_pos, if_neg, w64, rdn, rd0, tn, sc, Option.bind_some, ↓reduceIte, Bool.false_eq_true, Bool.true_eq_false]
      exact Ev.now _
    | true =>
      obtain ⟨v, hv, hv0, hv1, _⟩ := pick_ev b hb p1 3 (by omega) (by omega) (by omega)
      by_cases e0 : v = 0
      · refine ⟨[], p1 + 1, ?_, by omega, by omega, by simp⟩
        refine Ev.step (fun k => spec_l20Net.l0.eq_2 ..) ?_
        simp (disch := omega) only [if_pos, if_neg, w64, rdn, rd0, tn, sc, Option.bind_some, ↓reduceIte, Bool.false_eq_true, Bool.true_eq_false]
        refine Ev.bind hc ?_
        simp (disch := omega) only [if_pos, if_neg, w64, rdn, rd0, tn, sc, Option.bind_some, ↓reduceIte, Bool.false_eq_true, Bool.true_eq_false]
        refine Ev.bind hv ?_
        simp (disch := omega) only [if_pos, if_neg, w64, rdn, rd0, tn, sc, Option.bind_some, ↓reduceIte, Bool.false_eq_true, Bool.true_eq_false]
        exact Ev.now _
      · by_cases e1 : v = 1
        · refine ⟨x.set 0 (Go.bits .or .i64 (G x 0) 1), p1 + 1, ?_, by omega, by omega, by simp; omega⟩
          refine Ev.step (fun k => spec_l20Net.l0.eq_2 ..) ?_
          simp (disch := omega) only [if_pos, if_neg, w64, rdn, rd0, tn, sc, Option.bind_some, ↓reduceIte, Bool.false_eq_true, Bool.true_eq_false]
          refine Ev.bind hc ?_
          simp (disch := omega) only [if_pos, if_neg, w64, rdn, rd0, tn, sc, Option.bind_some, ↓reduceIte, Bool.false_eq_true, Bool.true_eq_false]
          refine Ev.bind hv ?_
          simp (disch := omega) only [if_pos, if_neg, w64, rdn, rd0, tn, sc, Option.bind_some, ↓reduceIte, Bool.false_eq_true, Bool.true_eq_false]
          exact Ev.now _
        · have hw : wrap64 ((nodes : Int) - 1) = (nodes : Int) - 1 := w64 (by omega) (by omega)
          by_cases e2 : nodes = 1
          · refine ⟨(x.set 0 (Go.bits .xor .i64 (G x 0) (shl .i64 1 ((nodes : Int) - 1)))).set 0 (-1), p1 + 1, ?_, by omega, by omega, by simp; omega⟩
            refine Ev.step (fun k => spec_l20Net.l0.eq_2 ..) ?_
            simp only [hw]
            simp (disch := omega) only [if_pos, if_neg, w64, rdn, rd0, tn, sc, Option.bind_some, ↓reduceIte, Bool.false_eq_true, Bool.true_eq_false]
            refine Ev.bind hc ?_
            simp (disch := omega) only [if_pos, if_neg, w64, rdn, rd0, tn, sc, Option.bind_some, ↓reduceIte, Bool.false_eq_true, Bool.true_eq_false]
            refine Ev.bind hv ?_
            simp (disch := omega) only [if_pos, if_neg, w64, rdn, rd0, tn, sc, Option.bind_some, ↓reduceIte, Bool.false_eq_true, Bool.true_eq_false]
            exact Ev.now _
          · refine ⟨x.set 0 (Go.bits .xor .i64 (G x 0) (shl .i64 1 ((nodes : Int) - 1))), p1 + 1, ?_, by omega, by omega, by simp; omega⟩
            refine Ev.step (fun k => spec_l20Net.l0.eq_2 ..) ?_
            simp only [hw]
            simp (disch := omega) only [if_pos, if_neg, w64, rdn, rd0, tn, sc, Option.bind_some, ↓reduceIte, Bool.false_eq_true, Bool.true_eq_false]
            refine Ev.bind hc ?_
            simp (disch := omega) only [if_pos, if_neg, w64, rdn, rd0, tn, sc, Option.bind_some, ↓reduceIte, Bool.false_eq_true, Bool.true_eq_false]
            refine Ev.bind hv ?_
            simp (disch := omega) only [if_pos, if_neg, w64, rdn, rd0, tn, sc, Option.bind_some, ↓reduceIte, Bool.false_eq_true, Bool.true_eq_false]
            exact Ev.now _
  | succ d ih =>
    intro x p hx hp hp2
    obtain ⟨v, hv, hv0, hv1, _⟩ := pick_ev b hb p (nodes : Int) hp (by omega) (by omega)
    obtain ⟨u, hu, hu0, hu1, _⟩ := pick_ev b hb (p + 1) (nodes : Int) (by omega) (by omega) (by omega)
    have hw : wrap64 (((d + 1 : Nat) : Int) - 1) = (d : Int) := by rw [w64 (by omega) (by omega)]; omega
    obtain ⟨i, rfl⟩ := Int.eq_ofNat_of_zero_le hv0
    obtain ⟨j, rfl⟩ := Int.eq_ofNat_of_zero_le hu0
    by_cases e : i = j
    · obtain ⟨r, p', hr, h2, h3, h4⟩ := ih x (p + 1 + 1) hx (by omega) (by omega)
      refine ⟨r, p', ?_, by omega, by omega, h4⟩
      refine Ev.step (fun k => spec_l20Net.l0.eq_2 ..) ?_
      simp only [hw]
      simp (disch := omega) only [if_pos, if_neg, w64, rdn, rd0, tn, sc, Option.bind_some, ↓reduceIte, Bool.false_eq_true, Bool.true_eq_false]
      refine Ev.bind hv ?_
      refine Ev.bind hu ?_
      simp (disch := omega) only [if_pos, if_neg, w64, rdn, rd0, tn, sc, Option.bind_some, ↓reduceIte, Bool.false_eq_true, Bool.true_eq_false]
      exact hr
    · obtain ⟨r, p', hr, h2, h3, h4⟩ := ih ((x.set i (Go.bits .or .i64 (G x i) (shl .i64 1 (j : Int)))).set j (Go.bits .or .i64 (G (x.set i (Go.bits .or .i64 (G x i) (shl .i64 1 (j : Int)))) j) (shl .i64 1 (i : Int)))) (p + 1 + 1) (by simp [hx]) (by omega) (by omega)
      refine ⟨r, p', ?_, by omega, by omega, h4⟩
      refine Ev.step (fun k => spec_l20Net.l0.eq_2 ..) ?_
      simp only [hw]
      simp (disch := omega) only [if_pos, if_neg, w64, rdn, rd0, tn, sc, Option.bind_some, ↓reduceIte, Bool.false_eq_true, Bool.true_eq_false]
      refine Ev.bind hv ?_
      refine Ev.bind hu ?_
      simp only [List.length_set]
      simp (disch := omega) only [if_pos, if_neg, w64, rdn, rd0, tn, sc, Option.bind_some, ↓reduceIte, Bool.false_eq_true, Bool.true_eq_false]
      exact hr
theorem l20Net_ev (b : List Int) (hb : RdOk b) (n p : Int) (hn : n ≤ 1000000) (hp : 0 ≤ p) (hp2 : p ≤ 9000) :
    ∃ r p', Ev (fun k => spec_l20Net.f k b p n) (r, p') ∧ p ≤ p' ∧ p' ≤ p + 20 ∧ r.length ≤ 6 := by
  obtain ⟨v, hv, hv0, hv1, _⟩ := pick_ev b hb p 6 hp (by omega) (by omega)
  obtain ⟨m, rfl⟩ := Int.eq_ofNat_of_zero_le hv0
  have hw : wrap64 (1 + (m : Int)) = ((1 + m : Nat) : Int) := by rw [w64 (by omega) (by omega)]; omega
  obtain ⟨x, hx, hxl⟩ := PathNet_ev (1 + m) (by omega) (by omega)
  obtain ⟨u, hu, hu0, hu1, _⟩ := pick_ev b hb (p + 1) 4 (by omega) (by omega) (by omega)
  have next : ∀ y : List Int, y.length = 1 + m → ∃ r p', Ev (fun k => spec_l20Net.j0 k n ((1 + m : Nat) : Int) y b (p + 1 + 1)) (r, p') ∧ p ≤ p' ∧ p' ≤ p + 20 ∧ r.length ≤ 6 := by
    intro y hy
    obtain ⟨t, ht, ht0, ht1, _⟩ := pick_ev b hb (p + 1 + 1) 6 (by omega) (by omega) (by omega)
    obtain ⟨q, rfl⟩ := Int.eq_ofNat_of_zero_le ht0
    obtain ⟨r, p', hr, h2, h3, h4⟩ := l20Net_l0 b hb n hn (1 + m) (by omega) (by omega) q y (p + 1 + 1 + 1) hy (by omega) (by omega)
    refine ⟨r, p', ?_, by omega, by omega, h4⟩
    refine Ev.step (fun k => spec_l20Net.j0.eq_2 ..) ?_
    refine Ev.bind ht ?_
    exact hr
  by_cases e0 : u = 0
  · by_cases e3 : 3 ≤ 1 + m
    · obtain ⟨y, hy, hyl⟩ := RingNet_ev (1 + m) e3 (by omega)
      obtain ⟨r, p', hr, h⟩ := next y hyl
      refine ⟨r, p', ?_, h⟩
      unfold spec_l20Net.f
      refine Ev.bind hv ?_
      simp only [hw]
      refine Ev.bind hx ?_
      refine Ev.bind hu ?_
      simp (disch := omega) only [if_pos, if_neg, w64, rdn, rd0, tn, sc, Option.bind_some, ↓reduceIte, Bool.false_eq_true, Bool.true_eq_false]
      refine Ev.bind hy ?_
      exact hr
    · obtain ⟨r, p', hr, h⟩ := next x hxl
      refine ⟨r, p', ?_, h⟩
      unfold spec_l20Net.f
      refine Ev.bind hv ?_
      simp only [hw]
      refine Ev.bind hx ?_
      refine Ev.bind hu ?_
      simp (disch := omega) only [if_pos, if_neg, w64, rdn, rd0, tn, sc, Option.bind_some, ↓reduceIte, Bool.false_eq_true, Bool.true_eq_false]
      exact hr
  · by_cases e1 : u = 1
    · obtain ⟨r, p', hr, h⟩ := next (List.replicate (1 + m) 0) (by simp)
      refine ⟨r, p', ?_, h⟩
      unfold spec_l20Net.f
      refine Ev.bind hv ?_
      simp only [hw]
      refine Ev.bind hx ?_
      refine Ev.bind hu ?_
      simp (disch := omega) only [if_pos, if_neg, w64, rdn, rd0, tn, sc, Option.bind_some, ↓reduceIte, Bool.false_eq_true, Bool.true_eq_false]
      exact hr
    · obtain ⟨r, p', hr, h⟩ := next x hxl
      refine ⟨r, p', ?_, h⟩
      unfold spec_l20Net.f
      refine Ev.bind hv ?_
      simp only [hw]
      refine Ev.bind hx ?_
      refine Ev.bind hu ?_
      simp (disch := omega) only [if_pos, if_neg, w64, rdn, rd0, tn, sc, Option.bind_some, ↓reduceIte, Bool.false_eq_true, Bool.true_eq_false]
      exact hr

theorem l20Set_ev (b : List Int) (hb : RdOk b) (n p : Int) (hn : n ≤ 1000) (hp : 0 ≤ p) (hp2 : p ≤ 1000) :
    ∃ net set p', Ev (fun k => spec_l20Set.f k b p n) (net, set, p') ∧ p ≤ p' ∧ p' ≤ p + 40 ∧ net.length ≤ 6 := by
  obtain ⟨net, p1, h1, h1a, h1b, h1c⟩ := l20Net_ev b hb n p (by omega) hp (by omega)
  have hs : shl .i64 1 (net.length : Int) = 2 ^ net.length := shl1 (by omega)
  have hs2 : (2 : Int) ^ net.length ≤ 64 := by
    have : (2 : Nat) ^ net.length ≤ 2 ^ 6 := Nat.pow_le_pow_right (by decide) h1c
    rw [two_pow_cast]; omega
  obtain ⟨u, h2, _⟩ := pick_ev b hb p1 (2 ^ net.length) (by omega) (by omega) (by omega)
  obtain ⟨v, h3, _⟩ := pick_ev b hb (p1 + 1) (2 ^ net.length) (by omega) (by omega) (by omega)
  obtain ⟨x, h4, _⟩ := pick_ev b hb (p1 + 1 + 1) 40 (by omega) (by omega) (by omega)
  refine ⟨net, wrap64 ((Go.bits .and .i64 u v) + (wrap64 ((wrap64 (Int.tdiv x 39)) * 64))), p1 + 1 + 1 + 1, ?_, by omega, by omega, h1c⟩
  unfold spec_l20Set.f
  refine Ev.bind h1 ?_
  simp only [hs]
  refine Ev.bind h2 ?_
  refine Ev.bind h3 ?_
  refine Ev.bind h4 ?_
  exact Ev.now _

theorem l20Wave_ev (b : List Int) (hb : RdOk b) (p : Int) (hp : 0 ≤ p) (hp2 : p ≤ 100) :
    ∃ net kinds set p', Ev (fun k => spec_l20Wave.f k b p) (net, kinds, set, p') ∧ net.length ≤ 6 := by
  obtain ⟨net, set, p1, h1, h1a, h1b, h1c⟩ := l20Set_ev b hb 14 p (by omega) hp (by omega)
  obtain ⟨u, h2, _⟩ := pick_ev b hb p1 3 (by omega) (by omega) (by omega)
  obtain ⟨v, h3, _⟩ := pick_ev b hb (p1 + 1) 40 (by omega) (by omega) (by omega)
  refine ⟨net, wrap64 ((wrap64 (3 + u)) + (wrap64 ((wrap64 (Int.tdiv v 39)) * 3))), set, p1 + 1 + 1, ?_, h1c⟩
  unfold spec_l20Wave.f
  refine Ev.bind h1 ?_
  refine Ev.bind h2 ?_
  refine Ev.bind h3 ?_
  exact Ev.now _

theorem DrawArrivalRow_ev (l : List Int) (h : ∀ x ∈ l, (Lit.int .u8 x).wf = true) : ∃ net kinds set, Ev (fun k => spec_DrawArrivalRow.f k l) (net, kinds, set) ∧ net.length ≤ 6 := by
  obtain ⟨b, hb, hR⟩ := spec_l20Open_eq l h
  obtain ⟨net, kinds, set, p, h1, h2⟩ := l20Wave_ev b hR 0 (by omega) (by omega)
  refine ⟨net, kinds, set, ?_, h2⟩
  unfold spec_DrawArrivalRow.f
  rw [hb]
  simp only [Option.bind_some]
  refine Ev.bind h1 ?_
  exact Ev.now _

-- needs Fire
theorem shl_len {net : List Int} (h : net.length ≤ 6) : shl .i64 1 (net.length : Int) = 2 ^ net.length := shl1 (by omega)
theorem impl_setOk_ev (net : List Int) (set : Int) (hn : net.length ≤ 1048576) : Ev (fun k => impl_setOk.f k net set) (decide (SetP net set)) := by
  unfold impl_setOk.f
  refine Ev.bind (impl_NetOk_ev net hn) ?_
  by_cases h1 : NetP net
  · simp only [h1, decide_true, shl_len h1.2.1]
    by_cases h2 : set ≥ 0
    · simp (disch := omega) only [if_pos, if_neg, w64, rdn, rd0, tn, sc, Option.bind_some, ↓reduceIte, Bool.false_eq_true, Bool.true_eq_false]
      refine Ev.val ?_
      rw [decide_eq_decide]
      unfold SetP
      constructor
      · intro h; exact ⟨h1, h2, h⟩
      · intro h; exact h.2.2
    · simp (disch := omega) only [if_pos, if_neg, w64, rdn, rd0, tn, sc, Option.bind_some, ↓reduceIte, Bool.false_eq_true, Bool.true_eq_false]
      have : ¬ SetP net set := fun h => h2 h.2.1
      exact Ev.val (by simp [this])
  · simp only [h1, decide_false]
    simp (disch := omega) only [if_pos, if_neg, w64, rdn, rd0, tn, sc, Option.bind_some, ↓reduceIte, Bool.false_eq_true, Bool.true_eq_false]
    have : ¬ SetP net set := fun h => h1 h.1
    exact Ev.val (by simp [this])

-- needs Fire
theorem impl_LitState_l0 (n : Nat) (h1 : 1 ≤ n) (h6 : n ≤ 6) (set : Int) : ∀ (d i : Nat) (x : List Int), n - i = d → i ≤ n → x.length = n → (∀ p, p < i → G x p = set / 2 ^ p % 2) →
    Ev (fun k => impl_LitState.l0 k set x (n : Int) (i : Int)) (lit n set) := by
  intro d
  induction d with
  | zero =>
    intro i x hd hi hx hp
    refine Ev.step (fun k => impl_LitState.l0.eq_2 ..) ?_
    have : i = n := by omega
    simp (disch := omega) only [if_pos, if_neg, w64, rdn, rd0, tn, sc, Option.bind_some, ↓reduceIte, Bool.false_eq_true, Bool.true_eq_false]
    refine Ev.val (mk_eq_iff.2 ⟨hx, fun p hpl => hp p (by omega)⟩)
  | succ d ih =>
    intro i x hd hi hx hp
    refine Ev.step (fun k => impl_LitState.l0.eq_2 ..) ?_
    have hb := bit_and set (j := i) (by omega)
    simp only [hb]
    clear hb
    simp (disch := omega) only [if_pos, if_neg, w64, rdn, rd0, tn, sc, Option.bind_some, ↓reduceIte, Bool.false_eq_true, Bool.true_eq_false]
    refine ih (i + 1) _ (by omega) (by omega) (by simp [hx]) ?_
    intro p hpi
    by_cases e : p = i
    · subst e; rw [G_set_self _ (by omega)]
    · rw [G_set_ne _ e]; exact hp p (by omega)
theorem impl_LitState_ev (n : Nat) (h1 : 1 ≤ n) (h6 : n ≤ 6) (set : Int) (h0 : 0 ≤ set) (hs : set < 2 ^ n) : Ev (fun k => impl_LitState.f k (n : Int) set) (lit n set) := by
  have hs1 : shl .i64 1 (n : Int) = 2 ^ n := shl1 (by omega)
  unfold impl_LitState.f
  have e : decide (set ≥ (2 : Int) ^ n) = false := decide_eq_false (by omega)
  simp only [hs1, e]
  clear e
  simp (disch := omega) only [if_pos, if_neg, w64, rdn, rd0, tn, sc, Option.bind_some, ↓reduceIte, Bool.false_eq_true, Bool.true_eq_false]
  refine Ev.step (fun k => impl_LitState.j0.eq_2 ..) ?_
  simp (disch := omega) only [if_pos, if_neg, w64, rdn, rd0, tn, sc, Option.bind_some, ↓reduceIte, Bool.false_eq_true, Bool.true_eq_false]
  simp only [List.length_replicate]
  exact impl_LitState_l0 n h1 h6 set _ 0 _ rfl (by omega) (by simp) (fun p h => by omega)

-- needs Fire
def FiresTo (net s : List Int) (i n : Nat) : Prop := ∃ j, j < n ∧ adj net i j ∧ G s j = 1
theorem firesTo_succ {net s : List Int} {i n : Nat} : FiresTo net s i (n + 1) ↔ FiresTo net s i n ∨ (adj net i n ∧ G s n = 1) := by
  constructor
  · rintro ⟨j, hj, h⟩
    by_cases e : j = n
    · subst e; exact Or.inr h
    · exact Or.inl ⟨j, by omega, h⟩
  · rintro (⟨j, hj, h⟩ | h)
    · exact ⟨j, by omega, h⟩
    · exact ⟨n, by omega, h⟩
theorem firesTo_all {net s : List Int} {i : Nat} : FiresTo net s i s.length ↔ Fires net s i := Iff.rfl
def fireK (net : List Int) (kinds : Int) (s : List Int) (i : Nat) : Int := if 0 < G s i then (G s i + 1) % kinds else if Fires net s i then 1 else 0
theorem impl_needStep_l1 (net : List Int) (kinds : Int) (s : List Int) (h : Asked net kinds s) (i : Nat) (hi : i < s.length) (r x : List Int) (hz : ¬ 0 < G s i) (hx : x.length = s.length) (hx0 : G x i = 0)
    (hend : ∀ y : List Int, y.length = s.length → G y i = fireK net kinds s i → (∀ p, p ≠ i → G y p = G x p) → Ev (fun k => impl_needStep.l0 k net kinds s y s (s.length : Int) ((i + 1 : Nat) : Int)) r) :
    ∀ (d j c : Nat), s.length - j = d → j ≤ s.length → c ≤ j → (0 < c ↔ FiresTo net s i j) →
      Ev (fun k => impl_needStep.l1 k net kinds s x (i : Int) (c : Int) 1 s (s.length : Int) (i : Int) s (s.length : Int) (j : Int)) r := by
  intro d
  have h6 := asked6 h
  have hl := h.2.2
  induction d with
  | zero =>
    intro j c hd hj hcj hc
    refine Ev.step (fun k => impl_needStep.l1.eq_2 ..) ?_
    have ej : j = s.length := by omega
    subst ej
    by_cases e : 0 < c
    · have hf := firesTo_all.1 (hc.1 e)
      clear hc
      simp (disch := omega) only [if_pos, if_neg, w64, rdn, rd0, tn, sc, Option.bind_some, ↓reduceIte, Bool.false_eq_true, Bool.true_eq_false]
      refine hend _ (by simp [hx]) ?_ (fun p hp => G_set_ne _ hp)
      rw [G_set_self _ (by omega)]
      unfold fireK
      rw [if_neg hz, if_pos hf]
    · have hf : ¬ Fires net s i := fun g => e (hc.2 (firesTo_all.2 g))
      clear hc
      simp (disch := omega) only [if_pos, if_neg, w64, rdn, rd0, tn, sc, Option.bind_some, ↓reduceIte, Bool.false_eq_true, Bool.true_eq_false]
      refine hend _ hx ?_ (fun p hp => rfl)
      unfold fireK
      rw [if_neg hz, if_neg hf, hx0]
  | succ d ih =>
    intro j c hd hj hcj hc
    refine Ev.step (fun k => impl_needStep.l1.eq_2 ..) ?_
    have hb := bit_and (G net i) (j := j) (by omega)
    simp only [rdn, hb]
    clear hb
    by_cases e1 : G net i / 2 ^ j % 2 = 1
    · by_cases e2 : G s j = 1
      · have hn := ih (j + 1) (c + 1) (by omega) (by omega) (by omega) (by rw [firesTo_succ]; exact ⟨fun _ => Or.inr ⟨e1, e2⟩, fun _ => by omega⟩)
        clear hc
        simp (disch := omega) only [if_pos, if_neg, w64, rdn, rd0, tn, sc, Option.bind_some, ↓reduceIte, Bool.false_eq_true, Bool.true_eq_false]
        exact hn
      · have hn := ih (j + 1) c (by omega) (by omega) (by omega) (by rw [firesTo_succ, hc]; exact ⟨Or.inl, fun g => g.elim id (fun g => absurd g.2 e2)⟩)
        clear hc
        simp (disch := omega) only [if_pos, if_neg, w64, rdn, rd0, tn, sc, Option.bind_some, ↓reduceIte, Bool.false_eq_true, Bool.true_eq_false]
        exact hn
    · have hn := ih (j + 1) c (by omega) (by omega) (by omega) (by rw [firesTo_succ, hc]; exact ⟨Or.inl, fun g => g.elim id (fun g => absurd g.1 e1)⟩)
      clear hc
      simp (disch := omega) only [if_pos, if_neg, w64, rdn, rd0, tn, sc, Option.bind_some, ↓reduceIte, Bool.false_eq_true, Bool.true_eq_false]
      exact hn
theorem impl_needStep_l0 (net : List Int) (kinds : Int) (s : List Int) (h : Asked net kinds s) : ∀ (d i : Nat) (x : List Int), s.length - i = d → i ≤ s.length → x.length = s.length →
    (∀ p, p < s.length → G x p = if p < i then fireK net kinds s p else 0) →
    Ev (fun k => impl_needStep.l0 k net kinds s x s (s.length : Int) (i : Int)) (fire net kinds s) := by
  intro d
  have h6 := asked6 h
  have hk3 := h.2.1.1
  have hk5 := h.2.1.2.1
  induction d with
  | zero =>
    intro i x hd hi hx hp
    refine Ev.step (fun k => impl_needStep.l0.eq_2 ..) ?_
    have ei : i = s.length := by omega
    simp (disch := omega) only [if_pos, if_neg, w64, rdn, rd0, tn, sc, Option.bind_some, ↓reduceIte, Bool.false_eq_true, Bool.true_eq_false]
    refine Ev.val (mk_eq_iff.2 ⟨hx, fun p hpl => ?_⟩)
    rw [hp p hpl, if_pos (by omega)]
    rfl
  | succ d ih =>
    intro i x hd hi hx hp
    refine Ev.step (fun k => impl_needStep.l0.eq_2 ..) ?_
    have hbd := h.2.1.2.2.2.2 i (by omega)
    have e1 : Int.tmod (wrap64 (G s i + 1)) kinds = (G s i + 1) % kinds := by rw [w64 (by omega) (by omega), tmod_nn (by omega)]
    simp only [rdn, e1]
    clear e1
    by_cases e : G s i > 0
    · have hn := ih (i + 1) (x.set i ((G s i + 1) % kinds)) (by omega) (by omega) (by simp [hx]) (fun p hpl => by
        by_cases ep : p = i
        · subst ep; rw [G_set_self _ (by omega), if_pos (by omega)]; unfold fireK; rw [if_pos e]
        · rw [G_set_ne _ ep, hp p hpl]
          by_cases g : p < i
          · rw [if_pos g, if_pos (by omega)]
          · rw [if_neg g, if_neg (by omega)])
      simp (disch := omega) only [if_pos, if_neg, w64, rdn, rd0, tn, sc, Option.bind_some, ↓reduceIte, Bool.false_eq_true, Bool.true_eq_false]
      exact hn
    · have hx0 := hp i (by omega)
      rw [if_neg (by omega)] at hx0
      have hn := impl_needStep_l1 net kinds s h i (by omega) (fire net kinds s) x (by omega) hx hx0 (fun y hy h1 h2 => ih (i + 1) y (by omega) (by omega) hy (fun p hpl => by
        by_cases ep : p = i
        · subst ep; rw [h1, if_pos (by omega)]
        · rw [h2 p ep, hp p hpl]
          by_cases g : p < i
          · rw [if_pos g, if_pos (by omega)]
          · rw [if_neg g, if_neg (by omega)])) _ 0 0 rfl (by omega) (by omega) ⟨fun g => by omega, fun ⟨q, hq, _⟩ => by omega⟩
      simp (disch := omega) only [if_pos, if_neg, w64, rdn, rd0, tn, sc, Option.bind_some, ↓reduceIte, Bool.false_eq_true, Bool.true_eq_false]
      exact hn
theorem impl_needStep_ev (net : List Int) (kinds : Int) (s : List Int) (h : Asked net kinds s) : Ev (fun k => impl_needStep.f k net kinds [] s) (fire net kinds s) := by
  unfold impl_needStep.f
  have h6 := asked6 h
  have h1 := asked1 h
  simp (disch := omega) only [if_pos, if_neg, w64, rdn, rd0, tn, sc, Option.bind_some, ↓reduceIte, Bool.false_eq_true, Bool.true_eq_false]
  exact impl_needStep_l0 net kinds s h _ 0 _ rfl (by omega) (by simp) (fun p hp => by rw [if_neg (by omega), replicate_mk, G_mk _ hp])

-- needs Fire
/-- The steps told so far: those below n. -/
def soFar (v : Int) (n : Int) : Int := if 0 ≤ v ∧ v < n then v else -1
theorem impl_ArrivalRow_l2 (net : List Int) (kinds set : Int) (hn : NetP net) (h3 : 3 ≤ kinds) (h5 : kinds ≤ 5) (t : Nat) (ht : t < 12) (r : List Int)
    (hend : ∀ y : List Int, y.length = net.length → (∀ p, p < net.length → G y p = soFar (distOf net net.length (bitOf set) p) ((t + 1 : Nat) : Int)) →
      Ev (fun k => impl_ArrivalRow.l1 k net kinds (fireN net kinds (lit net.length set) (t + 1)) y ((t + 1 : Nat) : Int)) r) :
    ∀ (d i : Nat) (x : List Int), net.length - i = d → i ≤ net.length → x.length = net.length → (∀ p, p < net.length → G x p = soFar (distOf net net.length (bitOf set) p) (if p < i then ((t + 1 : Nat) : Int) else (t : Int))) →
      Ev (fun k => impl_ArrivalRow.l2 k net kinds (fireN net kinds (lit net.length set) t) x (t : Int) (t : Int) (fireN net kinds (lit net.length set) t) (net.length : Int) (i : Int)) r := by
  intro d
  have h6 := hn.2.1
  have hA := fireN_ok (lit_asked (set := set) hn h3 h5) t
  have hL : (fireN net kinds (lit net.length set) t).length = net.length := by rw [fireN_length, lit_length]
  induction d with
  | zero =>
    intro i x hd hi hx hp
    refine Ev.step (fun k => impl_ArrivalRow.l2.eq_2 ..) ?_
    simp (disch := omega) only [if_pos, if_neg, w64, rdn, rd0, tn, sc, Option.bind_some, ↓reduceIte, Bool.false_eq_true, Bool.true_eq_false]
    refine Ev.bind (impl_needStep_ev net kinds _ hA) ?_
    exact hend x hx (fun p hpl => by rw [hp p hpl, if_pos (by omega)])
  | succ d ih =>
    intro i x hd hi hx hp
    refine Ev.step (fun k => impl_ArrivalRow.l2.eq_2 ..) ?_
    have hw := wave_one (set := set) (t := t) hn h3 h5 (show i < net.length by omega)
    have hxi := hp i (by omega)
    rw [if_neg (by omega)] at hxi
    simp only [rdn]
    by_cases e1 : G (fireN net kinds (lit net.length set) t) i = 1
    · have hd1 := hw.1 e1
      have e2 : G x i < 0 := by rw [hxi, hd1]; unfold soFar; rw [if_neg (by omega)]; omega
      have hnx := ih (i + 1) (x.set i (t : Int)) (by omega) (by omega) (by simp [hx]) (fun p hpl => by
        by_cases ep : p = i
        · subst ep; rw [G_set_self _ (by omega), if_pos (by omega), hd1]; unfold soFar; rw [if_pos (by omega)]
        · rw [G_set_ne _ ep, hp p hpl]
          by_cases g : p < i
          · rw [if_pos g, if_pos (by omega)]
          · rw [if_neg g, if_neg (by omega)])
      clear hw hxi hd1
      simp (disch := omega) only [if_pos, if_neg, w64, rdn, rd0, tn, sc, Option.bind_some, ↓reduceIte, Bool.false_eq_true, Bool.true_eq_false]
      exact hnx
    · have hd1 : ¬ distOf net net.length (bitOf set) i = (t : Int) := fun g => e1 (hw.2 g)
      have hnx := ih (i + 1) x (by omega) (by omega) hx (fun p hpl => by
        rw [hp p hpl]
        by_cases ep : p = i
        · subst ep; rw [if_neg (by omega), if_pos (by omega)]
          unfold soFar
          by_cases g : 0 ≤ distOf net net.length (bitOf set) p ∧ distOf net net.length (bitOf set) p < (t : Int)
          · rw [if_pos g, if_pos (by omega)]
          · rw [if_neg g, if_neg (by omega)]
        · by_cases g : p < i
          · rw [if_pos g, if_pos (by omega)]
          · rw [if_neg g, if_neg (by omega)])
      clear hw hxi hd1
      simp (disch := omega) only [if_pos, if_neg, w64, rdn, rd0, tn, sc, Option.bind_some, ↓reduceIte, Bool.false_eq_true, Bool.true_eq_false]
      exact hnx
theorem impl_ArrivalRow_l1 (net : List Int) (kinds set : Int) (hn : NetP net) (h3 : 3 ≤ kinds) (h5 : kinds ≤ 5) : ∀ (d t : Nat) (x : List Int), 12 - t = d → t ≤ 12 → x.length = net.length →
    (∀ p, p < net.length → G x p = soFar (distOf net net.length (bitOf set) p) (t : Int)) →
    Ev (fun k => impl_ArrivalRow.l1 k net kinds (fireN net kinds (lit net.length set) t) x (t : Int)) (distRow net set) := by
  intro d
  have h6 := hn.2.1
  induction d with
  | zero =>
    intro t x hd ht hx hp
    refine Ev.step (fun k => impl_ArrivalRow.l1.eq_2 ..) ?_
    simp (disch := omega) only [if_pos, if_neg, w64, rdn, rd0, tn, sc, Option.bind_some, ↓reduceIte, Bool.false_eq_true, Bool.true_eq_false]
    refine Ev.val (mk_eq_iff.2 ⟨hx, fun p hpl => ?_⟩)
    rw [hp p hpl]
    have := distOf_bd (net := net) (S := bitOf set) hpl
    unfold soFar
    by_cases g : 0 ≤ distOf net net.length (bitOf set) p
    · rw [if_pos (by omega)]
    · rw [if_neg (by omega)]; omega
  | succ d ih =>
    intro t x hd ht hx hp
    refine Ev.step (fun k => impl_ArrivalRow.l1.eq_2 ..) ?_
    have hL : (fireN net kinds (lit net.length set) t).length = net.length := by rw [fireN_length, lit_length]
    rw [hL]
    simp (disch := omega) only [if_pos, if_neg, w64, rdn, rd0, tn, sc, Option.bind_some, ↓reduceIte, Bool.false_eq_true, Bool.true_eq_false]
    exact impl_ArrivalRow_l2 net kinds set hn h3 h5 t (by omega) _ (fun y hy hq => ih (t + 1) y (by omega) (by omega) hy hq) _ 0 x rfl (by omega) hx (fun p hpl => by rw [hp p hpl, if_neg (by omega)])
theorem impl_ArrivalRow_l0 (net : List Int) (kinds set : Int) (hn : NetP net) (h3 : 3 ≤ kinds) (h5 : kinds ≤ 5) : ∀ (d i : Nat) (x : List Int), net.length - i = d → i ≤ net.length → x.length = net.length → (∀ p, p < i → G x p = -1) →
    Ev (fun k => impl_ArrivalRow.l0 k net kinds (lit net.length set) x (net.length : Int) (i : Int)) (distRow net set) := by
  intro d
  have h6 := hn.2.1
  induction d with
  | zero =>
    intro i x hd hi hx hp
    refine Ev.step (fun k => impl_ArrivalRow.l0.eq_2 ..) ?_
    simp (disch := omega) only [if_pos, if_neg, w64, rdn, rd0, tn, sc, Option.bind_some, ↓reduceIte, Bool.false_eq_true, Bool.true_eq_false]
    refine impl_ArrivalRow_l1 net kinds set hn h3 h5 12 0 x rfl (by omega) hx (fun p hpl => ?_)
    rw [hp p (by omega)]; unfold soFar; rw [if_neg (by omega)]
  | succ d ih =>
    intro i x hd hi hx hp
    refine Ev.step (fun k => impl_ArrivalRow.l0.eq_2 ..) ?_
    simp (disch := omega) only [if_pos, if_neg, w64, rdn, rd0, tn, sc, Option.bind_some, ↓reduceIte, Bool.false_eq_true, Bool.true_eq_false]
    refine ih (i + 1) _ (by omega) (by omega) (by simp [hx]) (fun p hpi => ?_)
    by_cases e : p = i
    · subst e; rw [G_set_self _ (by omega)]
    · rw [G_set_ne _ e]; exact hp p (by omega)
def WaveP (net : List Int) (kinds set : Int) : Prop := SetP net set ∧ 3 ≤ kinds ∧ kinds ≤ 5
noncomputable def arrivalRow (net : List Int) (kinds set : Int) : List Int := open Classical in if WaveP net kinds set then distRow net set else []
theorem arrivalRow_yes {net : List Int} {kinds set : Int} (h : WaveP net kinds set) : arrivalRow net kinds set = distRow net set := if_pos h
theorem arrivalRow_no {net : List Int} {kinds set : Int} (h : ¬ WaveP net kinds set) : arrivalRow net kinds set = [] := if_neg h
theorem impl_ArrivalRow_ev (net : List Int) (kinds set : Int) (hl : net.length ≤ 1048576) : Ev (fun k => impl_ArrivalRow.f k net kinds set) (arrivalRow net kinds set) := by
  unfold impl_ArrivalRow.f
  refine Ev.bind (impl_setOk_ev net set hl) ?_
  have hno : ∀ (h : ¬ WaveP net kinds set), Ev (fun k => impl_ArrivalRow.j0 k net kinds set true) (arrivalRow net kinds set) := by
    intro h
    rw [arrivalRow_no h]
    refine Ev.step (fun k => impl_ArrivalRow.j0.eq_2 ..) ?_
    simp (disch := omega) only [if_pos, if_neg, w64, rdn, rd0, tn, sc, Option.bind_some, ↓reduceIte, Bool.false_eq_true, Bool.true_eq_false]
    exact Ev.now _
  by_cases h1 : SetP net set
  · simp only [h1, decide_true]
    by_cases h3 : kinds < 3
    · have := hno (fun h => by have := h.2.1; omega)
      simp (disch := omega) only [if_pos, if_neg, w64, rdn, rd0, tn, sc, Option.bind_some, ↓reduceIte, Bool.false_eq_true, Bool.true_eq_false]
      exact this
    · by_cases h5 : kinds > 5
      · have := hno (fun h => by have := h.2.2; omega)
        have e : decide (kinds > 5) = true := decide_eq_true h5
        simp only [e]
        simp (disch := omega) only [if_pos, if_neg, w64, rdn, rd0, tn, sc, Option.bind_some, ↓reduceIte, Bool.false_eq_true, Bool.true_eq_false]
        exact this
      · have e : decide (kinds > 5) = false := decide_eq_false h5
        simp only [e]
        rw [arrivalRow_yes ⟨h1, by omega, by omega⟩]
        have hn1 := h1.1.1
        have hn6 := h1.1.2.1
        simp (disch := omega) only [if_pos, if_neg, w64, rdn, rd0, tn, sc, Option.bind_some, ↓reduceIte, Bool.false_eq_true, Bool.true_eq_false]
        refine Ev.step (fun k => impl_ArrivalRow.j0.eq_2 ..) ?_
        simp (disch := omega) only [if_pos, if_neg, w64, rdn, rd0, tn, sc, Option.bind_some, ↓reduceIte, Bool.false_eq_true, Bool.true_eq_false]
        refine Ev.bind (impl_LitState_ev net.length hn1 hn6 set h1.2.1 h1.2.2) ?_
        simp only [List.length_replicate]
        exact impl_ArrivalRow_l0 net kinds set h1.1 (by omega) (by omega) _ 0 _ rfl (by omega) (by simp) (fun p h => by omega)
  · have := hno (fun h => h1 h.1)
    simp only [h1, decide_false]
    simp (disch := omega) only [if_pos, if_neg, w64, rdn, rd0, tn, sc, Option.bind_some, ↓reduceIte, Bool.false_eq_true, Bool.true_eq_false]
    exact this
theorem arrivalRow_length {net : List Int} {kinds set : Int} : (arrivalRow net kinds set).length ≤ 6 := by
  by_cases h : WaveP net kinds set
  · rw [arrivalRow_yes h, distRow_length]; exact h.1.1.2.1
  · rw [arrivalRow_no h]; decide

theorem spec_NetOk_l2 (l : List Int) (h6 : l.length ≤ 6) (hr : ∀ j, j < l.length → 0 ≤ G l j ∧ G l j < 2 ^ l.length) (i : Nat) (hi : i < l.length) (r : Bool)
    (hbad : ∀ k, k < l.length → ¬ ((adj l i k ↔ adj l k i) ∧ ¬ (k = i ∧ adj l i i)) → r = false)
    (hgood : (∀ k, k < l.length → (adj l i k ↔ adj l k i)) → ¬ adj l i i → Ev (fun k => spec_NetOk.l1 k l ((i + 1 : Nat) : Int)) r) :
    ∀ (d : Nat) (j : Nat), l.length - j = d → j ≤ l.length → (∀ k, k < j → (adj l i k ↔ adj l k i) ∧ ¬ (k = i ∧ adj l i i)) →
      Ev (fun k => spec_NetOk.l2 k l (i : Int) (j : Int)) r := by
  intro d
  induction d with
  | zero =>
    intro j hd hj hk
    refine Ev.step (fun k => spec_NetOk.l2.eq_2 ..) ?_
    simp (disch := omega) only [if_pos, if_neg, w64, rdn, rd0, tn, sc, Option.bind_some, ↓reduceIte, Bool.false_eq_true, Bool.true_eq_false]
    exact hgood (fun k hkl => (hk k (by omega)).1) (fun h => (hk i (by omega)).2 ⟨rfl, h⟩)
  | succ d ih =>
    intro j hd hj hk
    refine Ev.step (fun k => spec_NetOk.l2.eq_2 ..) ?_
    have b1 := bit_mod (G l i) (j := j) (by omega) (hr i hi).1
    have b2 := bit_mod (G l j) (j := i) (by omega) (hr j (by omega)).1
    have m1 := Int.emod_two_eq (G l i / 2 ^ j)
    have m2 := Int.emod_two_eq (G l j / 2 ^ i)
    by_cases e : adj l i j ↔ adj l j i
    · have e' : G l i / 2 ^ j % 2 = G l j / 2 ^ i % 2 := by
        unfold adj at e
        by_cases c : G l i / 2 ^ j % 2 = 1
        · rw [c, e.1 c]
        · have c2 := fun h => c (e.2 h)
          omega
      simp only [rdn, b1, b2]
      by_cases eji : j = i
      · by_cases ea : G l i / 2 ^ j % 2 = 1
        · simp (disch := omega) only [if_pos, if_neg, w64, rdn, rd0, tn, sc, Option.bind_some, ↓reduceIte, Bool.false_eq_true, Bool.true_eq_false]
          refine Ev.val (hbad j (by omega) (fun h => h.2 ⟨eji, ?_⟩)).symm
          rw [eji] at ea; exact ea
        · simp (disch := omega) only [if_pos, if_neg, w64, rdn, rd0, tn, sc, Option.bind_some, ↓reduceIte, Bool.false_eq_true, Bool.true_eq_false]
          refine ih _ (by omega) (by omega) ?_
          intro k hkj
          by_cases e'' : k = j
          · subst e''; refine ⟨e, fun h => ea ?_⟩; have := h.2; rw [eji]; exact this
          · exact hk k (by omega)
      · simp (disch := omega) only [if_pos, if_neg, w64, rdn, rd0, tn, sc, Option.bind_some, ↓reduceIte, Bool.false_eq_true, Bool.true_eq_false]
        refine ih _ (by omega) (by omega) ?_
        intro k hkj
        by_cases e'' : k = j
        · subst e''; exact ⟨e, fun h => eji h.1⟩
        · exact hk k (by omega)
    · have e' : ¬ G l i / 2 ^ j % 2 = G l j / 2 ^ i % 2 := by
        intro h
        apply e
        unfold adj
        rw [h]
      simp only [rdn, b1, b2]
      simp (disch := omega) only [if_pos, if_neg, w64, rdn, rd0, tn, sc, Option.bind_some, ↓reduceIte, Bool.false_eq_true, Bool.true_eq_false]
      exact Ev.val (hbad j (by omega) (fun h => e h.1)).symm
theorem spec_NetOk_l1 (l : List Int) (h1 : 1 ≤ l.length) (h6 : l.length ≤ 6) (hr : ∀ j, j < l.length → 0 ≤ G l j ∧ G l j < 2 ^ l.length) : ∀ (d : Nat) (i : Nat), l.length - i = d → i ≤ l.length →
    (∀ j, j < i → (¬ adj l j j ∧ ∀ k, k < l.length → (adj l j k ↔ adj l k j))) → Ev (fun k => spec_NetOk.l1 k l (i : Int)) (decide (NetP l)) := by
  intro d
  induction d with
  | zero =>
    intro i hd hi hj
    refine Ev.step (fun k => spec_NetOk.l1.eq_2 ..) ?_
    simp (disch := omega) only [if_pos, if_neg, w64, rdn, rd0, tn, sc, Option.bind_some, ↓reduceIte, Bool.false_eq_true, Bool.true_eq_false]
    have : NetP l := ⟨h1, h6, fun j h => ⟨(hr j h).1, (hr j h).2, (hj j (by omega)).1, (hj j (by omega)).2⟩⟩
    exact Ev.val (by simp [this])
  | succ d ih =>
    intro i hd hi hj
    refine Ev.step (fun k => spec_NetOk.l1.eq_2 ..) ?_
    simp (disch := omega) only [if_pos, if_neg, w64, rdn, rd0, tn, sc, Option.bind_some, ↓reduceIte, Bool.false_eq_true, Bool.true_eq_false]
    refine spec_NetOk_l2 l h6 hr i (by omega) _ ?_ ?_ _ 0 rfl (by omega) (fun k h => by omega)
    · intro k hk hn
      have : ¬ NetP l := fun p => hn ⟨(p.2.2 i (by omega)).2.2.2 k hk, fun h => (p.2.2 i (by omega)).2.2.1 h.2⟩
      simp [this]
    · intro hall hirr
      refine ih _ (by omega) (by omega) ?_
      intro j hji
      by_cases e' : j = i
      · subst e'; exact ⟨hirr, hall⟩
      · exact hj j (by omega)
theorem spec_NetOk_l0 (l : List Int) (h1 : 1 ≤ l.length) (h6 : l.length ≤ 6) : ∀ (d : Nat) (i : Nat), l.length - i = d → i ≤ l.length →
    (∀ j, j < i → 0 ≤ G l j ∧ G l j < 2 ^ l.length) → Ev (fun k => spec_NetOk.l0 k l (i : Int)) (decide (NetP l)) := by
  intro d
  induction d with
  | zero =>
    intro i hd hi hj
    refine Ev.step (fun k => spec_NetOk.l0.eq_2 ..) ?_
    simp (disch := omega) only [if_pos, if_neg, w64, rdn, rd0, tn, sc, Option.bind_some, ↓reduceIte, Bool.false_eq_true, Bool.true_eq_false]
    exact spec_NetOk_l1 l h1 h6 (fun j h => hj j (by omega)) _ 0 rfl (by omega) (fun j h => by omega)
  | succ d ih =>
    intro i hd hi hj
    refine Ev.step (fun k => spec_NetOk.l0.eq_2 ..) ?_
    have hs := shl1 (n := l.length) (by omega)
    have hp := pow_lt63 (n := l.length) (by omega)
    have hq := pow_pos2 l.length
    have hw : wrap64 ((2 : Int) ^ l.length - 1) = 2 ^ l.length - 1 := w64 (by omega) (by omega)
    simp only [rdn, hs, hw, spec_l1In_eq, Option.bind_some]
    by_cases e : 0 ≤ G l i ∧ G l i ≤ 2 ^ l.length - 1
    · simp only [e, and_self, decide_true]
      simp (disch := omega) only [if_pos, if_neg, w64, rdn, rd0, tn, sc, Option.bind_some, ↓reduceIte, Bool.false_eq_true, Bool.true_eq_false]
      refine ih _ (by omega) (by omega) ?_
      intro j hji
      by_cases e' : j = i
      · subst e'; omega
      · exact hj j (by omega)
    · simp only [e, decide_false]
      simp (disch := omega) only [if_pos, if_neg, w64, rdn, rd0, tn, sc, Option.bind_some, ↓reduceIte, Bool.false_eq_true, Bool.true_eq_false]
      have : ¬ NetP l := fun p => e ⟨(p.2.2 i (by omega)).1, by have := (p.2.2 i (by omega)).2.1; omega⟩
      exact Ev.val (by simp [this])
theorem spec_NetOk_ev (l : List Int) (hl : l.length ≤ 1048576) : Ev (fun k => spec_NetOk.f k l) (decide (NetP l)) := by
  unfold spec_NetOk.f
  simp only [spec_l1In_eq, Option.bind_some]
  by_cases h : 1 ≤ l.length ∧ l.length ≤ 6
  · have h' : (1 : Int) ≤ (l.length : Int) ∧ (l.length : Int) ≤ 6 := by omega
    simp only [h', and_self, decide_true]
    simp (disch := omega) only [if_pos, if_neg, w64, rdn, rd0, tn, sc, Option.bind_some, ↓reduceIte, Bool.false_eq_true, Bool.true_eq_false]
    exact spec_NetOk_l0 l h.1 h.2 _ 0 rfl (by omega) (fun j h => by omega)
  · have h' : ¬ ((1 : Int) ≤ (l.length : Int) ∧ (l.length : Int) ≤ 6) := by omega
    simp only [h', decide_false]
    simp (disch := omega) only [if_pos, if_neg, w64, rdn, rd0, tn, sc, Option.bind_some, ↓reduceIte, Bool.false_eq_true, Bool.true_eq_false]
    have : ¬ NetP l := fun p => h ⟨p.1, p.2.1⟩
    exact Ev.val (by simp [this])

-- needs Fire
theorem spec_LitState_l0 (n : Nat) (h1 : 1 ≤ n) (h6 : n ≤ 6) (set : Int) (h0 : 0 ≤ set) (hs : set < 2 ^ n) : ∀ (d i : Nat), n - i = d → i ≤ n →
    Ev (fun k => spec_LitState.l0 k (n : Int) set (mk i (fun p => set / 2 ^ p % 2)) (i : Int)) (lit n set) := by
  intro d
  induction d with
  | zero =>
    intro i hd hi
    refine Ev.step (fun k => spec_LitState.l0.eq_2 ..) ?_
    have ei : i = n := by omega
    subst ei
    simp (disch := omega) only [if_pos, if_neg, w64, rdn, rd0, tn, sc, Option.bind_some, ↓reduceIte, Bool.false_eq_true, Bool.true_eq_false]
    exact Ev.now _
  | succ d ih =>
    intro i hd hi
    refine Ev.step (fun k => spec_LitState.l0.eq_2 ..) ?_
    have e1 : spec_l1In.f (n : Int) 1 6 = some true := by rw [spec_l1In_eq]; simp; omega
    have hp := pow_lt63 (show n ≤ 62 by omega)
    have hp0 := pow_pos2 n
    have e2 : spec_l1In.f set 0 (wrap64 (shl .i64 1 (n : Int) - 1)) = some true := by rw [spec_l1In_eq, shl1 (by omega), w64 (by omega) (by omega)]; simp; omega
    have e3 := bit_mod set (j := i) (by omega) h0
    have hn := ih (i + 1) (by omega) (by omega)
    rw [mk_succ] at hn
    have hl : (mk i (fun p => set / 2 ^ p % 2)).length = i := mk_length _ _
    simp only [e1, e2, e3, Option.bind_some]
    clear e1 e2 e3 hp hp0 hs
    simp (disch := omega) only [if_pos, if_neg, w64, rdn, rd0, tn, sc, Option.bind_some, ↓reduceIte, Bool.false_eq_true, Bool.true_eq_false]
    exact hn
theorem spec_LitState_ev (n : Nat) (h1 : 1 ≤ n) (h6 : n ≤ 6) (set : Int) (h0 : 0 ≤ set) (hs : set < 2 ^ n) : Ev (fun k => spec_LitState.f k (n : Int) set) (lit n set) := by
  unfold spec_LitState.f
  exact spec_LitState_l0 n h1 h6 set h0 hs _ 0 rfl (by omega)

-- needs Fire
theorem and_zero {a b : Int} (ha : 0 ≤ a) (ha' : a < 64) (hb : 0 ≤ b) (hb' : b < 64) : Go.bits .and .i64 a b = 0 ↔ ∀ k : Nat, k < 6 → ¬ (a / 2 ^ k % 2 = 1 ∧ b / 2 ^ k % 2 = 1) := by
  obtain ⟨m, rfl⟩ := Int.eq_ofNat_of_zero_le ha
  obtain ⟨n, rfl⟩ := Int.eq_ofNat_of_zero_le hb
  rw [(bits_small m n (by omega) (by omega)).1]
  constructor
  · intro h k hk
    rw [bit_cast, bit_cast]
    have h0 : m &&& n = 0 := by omega
    have h1 := Nat.testBit_and m n k
    rw [h0, Nat.zero_testBit] at h1
    rintro ⟨h2, h3⟩
    rw [h2, h3] at h1
    cases h1
  · intro h
    have h0 : m &&& n = 0 := by
      apply Nat.eq_of_testBit_eq
      intro k
      rw [Nat.testBit_and, Nat.zero_testBit]
      by_cases hk : k < 6
      · have := h k hk
        rw [bit_cast, bit_cast] at this
        cases h2 : m.testBit k <;> cases h3 : n.testBit k <;> simp_all
      · have : m < 2 ^ k := Nat.lt_of_lt_of_le (show m < 2 ^ 6 by omega) (Nat.pow_le_pow_right (by decide) (by omega))
        rw [Nat.testBit_lt_two_pow this]; rfl
    omega
theorem spec_l3Step_l1 (net : List Int) (kinds : Int) (s : List Int) (h : Asked net kinds s) (m : Int) (hm0 : 0 ≤ m) (hm : m < 64) (hb : ∀ j : Nat, j < 6 → (m / 2 ^ j % 2 = 1 ↔ j < s.length ∧ G s j = 1)) :
    ∀ (d i : Nat), s.length - i = d → i ≤ s.length →
    Ev (fun k => spec_l3Step.l1 k net kinds s m (mk i (fun i => if 0 < G s i then (G s i + 1) % kinds else if Fires net s i then 1 else 0)) (i : Int)) (fire net kinds s) := by
  intro d
  have h6 := asked6 h
  have hl := h.2.2
  have hk3 := h.2.1.1
  have hk5 := h.2.1.2.1
  induction d with
  | zero =>
    intro i hd hi
    refine Ev.step (fun k => spec_l3Step.l1.eq_2 ..) ?_
    have ei : i = s.length := by omega
    subst ei
    simp (disch := omega) only [if_pos, if_neg, w64, rdn, rd0, tn, sc, Option.bind_some, ↓reduceIte, Bool.false_eq_true, Bool.true_eq_false]
    exact Ev.now _
  | succ d ih =>
    intro i hd hi
    refine Ev.step (fun k => spec_l3Step.l1.eq_2 ..) ?_
    have hn := ih (i + 1) (by omega) (by omega)
    rw [mk_succ] at hn
    have hL : (mk i (fun i => if 0 < G s i then (G s i + 1) % kinds else if Fires net s i then 1 else 0)).length = i := mk_length _ _
    have hbd := h.2.1.2.2.2.2 i (by omega)
    have e1 : Int.tmod (wrap64 (G s i + 1)) kinds = (G s i + 1) % kinds := by rw [w64 (by omega) (by omega), tmod_nn (by omega)]
    simp only [rdn, e1]
    clear e1
    by_cases e : G s i > 0
    · simp only [show 0 < G s i from e, if_true] at hn
      simp (disch := omega) only [if_pos, if_neg, w64, rdn, rd0, tn, sc, Option.bind_some, ↓reduceIte, Bool.false_eq_true, Bool.true_eq_false]
      exact hn
    · simp only [show ¬ 0 < G s i from e, if_false] at hn
      have hni := h.1.2.2 i (by omega)
      have hp : (2 : Int) ^ net.length ≤ 64 := by
        have : (2 : Nat) ^ net.length ≤ 2 ^ 6 := Nat.pow_le_pow_right (by decide) h.1.2.1
        rw [two_pow_cast]; omega
      have hz := and_zero (a := G net i) (b := m) hni.1 (by omega) hm0 hm
      have hf : Go.bits .and .i64 (G net i) m = 0 ↔ ¬ Fires net s i := by
        rw [hz]
        constructor
        · rintro g ⟨j, hj, ha, e1⟩; exact g j (by omega) ⟨ha, (hb j (by omega)).2 ⟨hj, e1⟩⟩
        · rintro g k hk ⟨ha, e1⟩
          have h2 := (hb k hk).1 e1
          exact g ⟨k, h2.1, ha, h2.2⟩
      clear hz hp hni
      by_cases g : Fires net s i
      · have hf' : ¬ Go.bits .and .i64 (G net i) m = 0 := fun x => hf.1 x g
        simp only [g, if_true] at hn
        clear hf hb
        simp (disch := omega) only [if_pos, if_neg, w64, rdn, rd0, tn, sc, Option.bind_some, ↓reduceIte, Bool.false_eq_true, Bool.true_eq_false]
        exact hn
      · have hf' : Go.bits .and .i64 (G net i) m = 0 := hf.2 g
        simp only [g, if_false] at hn
        have e0 : G s i = 0 := by omega
        clear hf hb
        simp (disch := omega) only [if_pos, if_neg, w64, rdn, rd0, tn, sc, Option.bind_some, ↓reduceIte, Bool.false_eq_true, Bool.true_eq_false]
        rw [e0]
        exact hn
theorem spec_l3Step_l0 (net : List Int) (kinds : Int) (s : List Int) (h : Asked net kinds s) : ∀ (d i : Nat) (m : Int), s.length - i = d → i ≤ s.length → 0 ≤ m → m < 64 → (∀ j : Nat, j < 6 → (m / 2 ^ j % 2 = 1 ↔ j < i ∧ G s j = 1)) →
    Ev (fun k => spec_l3Step.l0 k net kinds s m (i : Int)) (fire net kinds s) := by
  intro d
  have h6 := asked6 h
  induction d with
  | zero =>
    intro i m hd hi hm0 hm hb
    refine Ev.step (fun k => spec_l3Step.l0.eq_2 ..) ?_
    have ei : i = s.length := by omega
    subst ei
    have hn := spec_l3Step_l1 net kinds s h m hm0 hm hb _ 0 rfl (by omega)
    clear hb
    simp (disch := omega) only [if_pos, if_neg, w64, rdn, rd0, tn, sc, Option.bind_some, ↓reduceIte, Bool.false_eq_true, Bool.true_eq_false]
    exact hn
  | succ d ih =>
    intro i m hd hi hm0 hm hb
    refine Ev.step (fun k => spec_l3Step.l0.eq_2 ..) ?_
    simp only [rdn]
    by_cases e : G s i = 1
    · obtain ⟨y, hy, hy0, hy1, hyb⟩ := or_bit hm0 hm (j := i) (by omega)
      have hn := ih (i + 1) y (by omega) (by omega) hy0 hy1 (fun j hj => by
        rw [hyb j, hb j hj]
        constructor
        · rintro (g | g)
          · exact ⟨by omega, g.2⟩
          · subst g; exact ⟨by omega, e⟩
        · rintro ⟨g1, g2⟩
          by_cases x : j = i
          · exact Or.inr x
          · exact Or.inl ⟨by omega, g2⟩)
      clear hb hyb
      simp only [hy]
      simp (disch := omega) only [if_pos, if_neg, w64, rdn, rd0, tn, sc, Option.bind_some, ↓reduceIte, Bool.false_eq_true, Bool.true_eq_false]
      exact hn
    · have hn := ih (i + 1) m (by omega) (by omega) hm0 hm (fun j hj => by
        rw [hb j hj]
        constructor
        · rintro g; exact ⟨by omega, g.2⟩
        · rintro ⟨g1, g2⟩
          have : j ≠ i := by rintro rfl; exact e g2
          exact ⟨by omega, g2⟩)
      clear hb
      simp (disch := omega) only [if_pos, if_neg, w64, rdn, rd0, tn, sc, Option.bind_some, ↓reduceIte, Bool.false_eq_true, Bool.true_eq_false]
      exact hn
theorem spec_l3Step_ev (net : List Int) (kinds : Int) (s : List Int) (h : Asked net kinds s) : Ev (fun k => spec_l3Step.f k net kinds s) (fire net kinds s) := by
  unfold spec_l3Step.f
  exact spec_l3Step_l0 net kinds s h _ 0 0 rfl (by omega) (by omega) (by omega) (fun j hj => by simp)

-- needs Fire
theorem spec_ArrivalRow_l2 (net : List Int) (kinds set : Int) (hn : NetP net) (h3 : 3 ≤ kinds) (h5 : kinds ≤ 5) (t : Nat) (ht : t ≤ net.length) (r : List Int)
    (hend : ∀ y : List Int, y.length = net.length → (∀ p, p < net.length → G y p = soFar (distOf net net.length (bitOf set) p) ((t + 1 : Nat) : Int)) →
      Ev (fun k => spec_ArrivalRow.l1 k net kinds y (fireN net kinds (lit net.length set) t) ((t + 1 : Nat) : Int)) r) :
    ∀ (d i : Nat) (x : List Int), net.length - i = d → i ≤ net.length → x.length = net.length → (∀ p, p < net.length → G x p = soFar (distOf net net.length (bitOf set) p) (if p < i then ((t + 1 : Nat) : Int) else (t : Int))) →
      Ev (fun k => spec_ArrivalRow.l2 k net kinds x (fireN net kinds (lit net.length set) t) (t : Int) (i : Int)) r := by
  intro d
  have h6 := hn.2.1
  have hL : (fireN net kinds (lit net.length set) t).length = net.length := by rw [fireN_length, lit_length]
  induction d with
  | zero =>
    intro i x hd hi hx hp
    refine Ev.step (fun k => spec_ArrivalRow.l2.eq_2 ..) ?_
    have hnx := hend x hx (fun p hpl => by rw [hp p hpl, if_pos (by omega)])
    simp (disch := omega) only [if_pos, if_neg, w64, rdn, rd0, tn, sc, Option.bind_some, ↓reduceIte, Bool.false_eq_true, Bool.true_eq_false]
    exact hnx
  | succ d ih =>
    intro i x hd hi hx hp
    refine Ev.step (fun k => spec_ArrivalRow.l2.eq_2 ..) ?_
    have hw := wave_one (set := set) (t := t) hn h3 h5 (show i < net.length by omega)
    have hxi := hp i (by omega)
    rw [if_neg (by omega)] at hxi
    simp only [rdn]
    by_cases e1 : G (fireN net kinds (lit net.length set) t) i = 1
    · have hd1 := hw.1 e1
      have e2 : G x i < 0 := by rw [hxi, hd1]; unfold soFar; rw [if_neg (by omega)]; omega
      have hnx := ih (i + 1) (x.set i (t : Int)) (by omega) (by omega) (by simp [hx]) (fun p hpl => by
        by_cases ep : p = i
        · subst ep; rw [G_set_self _ (by omega), if_pos (by omega), hd1]; unfold soFar; rw [if_pos (by omega)]
        · rw [G_set_ne _ ep, hp p hpl]
          by_cases g : p < i
          · rw [if_pos g, if_pos (by omega)]
          · rw [if_neg g, if_neg (by omega)])
      clear hw hxi hd1
      simp (disch := omega) only [if_pos, if_neg, w64, rdn, rd0, tn, sc, Option.bind_some, ↓reduceIte, Bool.false_eq_true, Bool.true_eq_false]
      exact hnx
    · have hd1 : ¬ distOf net net.length (bitOf set) i = (t : Int) := fun g => e1 (hw.2 g)
      have hnx := ih (i + 1) x (by omega) (by omega) hx (fun p hpl => by
        rw [hp p hpl]
        by_cases ep : p = i
        · subst ep; rw [if_neg (by omega), if_pos (by omega)]
          unfold soFar
          by_cases g : 0 ≤ distOf net net.length (bitOf set) p ∧ distOf net net.length (bitOf set) p < (t : Int)
          · rw [if_pos g, if_pos (by omega)]
          · rw [if_neg g, if_neg (by omega)]
        · by_cases g : p < i
          · rw [if_pos g, if_pos (by omega)]
          · rw [if_neg g, if_neg (by omega)])
      clear hw hxi hd1
      simp (disch := omega) only [if_pos, if_neg, w64, rdn, rd0, tn, sc, Option.bind_some, ↓reduceIte, Bool.false_eq_true, Bool.true_eq_false]
      exact hnx
theorem spec_ArrivalRow_l1 (net : List Int) (kinds set : Int) (hn : NetP net) (h3 : 3 ≤ kinds) (h5 : kinds ≤ 5) : ∀ (d t : Nat) (x : List Int), net.length - t = d → t ≤ net.length → x.length = net.length →
    (∀ p, p < net.length → G x p = soFar (distOf net net.length (bitOf set) p) ((t + 1 : Nat) : Int)) →
    Ev (fun k => spec_ArrivalRow.l1 k net kinds x (fireN net kinds (lit net.length set) t) ((t + 1 : Nat) : Int)) (distRow net set) := by
  intro d
  have h6 := hn.2.1
  induction d with
  | zero =>
    intro t x hd ht hx hp
    refine Ev.step (fun k => spec_ArrivalRow.l1.eq_2 ..) ?_
    have hfin : x = distRow net set := mk_eq_iff.2 ⟨hx, fun p hpl => by
      rw [hp p hpl]
      have := distOf_bd (net := net) (S := bitOf set) hpl
      unfold soFar
      by_cases g : 0 ≤ distOf net net.length (bitOf set) p
      · rw [if_pos (by omega)]
      · rw [if_neg (by omega)]; omega⟩
    clear hp
    simp (disch := omega) only [if_pos, if_neg, w64, rdn, rd0, tn, sc, Option.bind_some, ↓reduceIte, Bool.false_eq_true, Bool.true_eq_false]
    exact Ev.val hfin
  | succ d ih =>
    intro t x hd ht hx hp
    refine Ev.step (fun k => spec_ArrivalRow.l1.eq_2 ..) ?_
    have hA := fireN_ok (lit_asked (set := set) hn h3 h5) t
    simp (disch := omega) only [if_pos, if_neg, w64, rdn, rd0, tn, sc, Option.bind_some, ↓reduceIte, Bool.false_eq_true, Bool.true_eq_false]
    refine Ev.bind (spec_l3Step_ev net kinds _ hA) ?_
    exact spec_ArrivalRow_l2 net kinds set hn h3 h5 (t + 1) (by omega) _ (fun y hy hq => ih (t + 1) y (by omega) (by omega) hy hq) _ 0 x rfl (by omega) hx (fun p hpl => by rw [hp p hpl, if_neg (by omega)])
theorem spec_ArrivalRow_l0 (net : List Int) (kinds set : Int) (hn : NetP net) (h3 : 3 ≤ kinds) (h5 : kinds ≤ 5) : ∀ (d i : Nat), net.length - i = d → i ≤ net.length →
    Ev (fun k => spec_ArrivalRow.l0 k net kinds (mk i (fun p => soFar (distOf net net.length (bitOf set) p) 1)) (lit net.length set) (i : Int)) (distRow net set) := by
  intro d
  have h6 := hn.2.1
  induction d with
  | zero =>
    intro i hd hi
    refine Ev.step (fun k => spec_ArrivalRow.l0.eq_2 ..) ?_
    have ei : i = net.length := by omega
    subst ei
    simp (disch := omega) only [if_pos, if_neg, w64, rdn, rd0, tn, sc, Option.bind_some, ↓reduceIte, Bool.false_eq_true, Bool.true_eq_false]
    exact spec_ArrivalRow_l1 net kinds set hn h3 h5 net.length 0 _ rfl (by omega) (mk_length _ _) (fun p hpl => G_mk _ hpl)
  | succ d ih =>
    intro i hd hi
    refine Ev.step (fun k => spec_ArrivalRow.l0.eq_2 ..) ?_
    have hn := ih (i + 1) (by omega) (by omega)
    rw [mk_succ] at hn
    have hL : (mk i (fun p => soFar (distOf net net.length (bitOf set) p) 1)).length = i := mk_length _ _
    have hL2 := lit_length net.length set
    have e1 : wrap64 (G (lit net.length set) i - 1) = soFar (distOf net net.length (bitOf set) i) 1 := by
      rw [lit_one (show i < net.length by omega)]
      have hle := distOf_le (net := net) (n := net.length) (S := bitOf set) (i := i) 0
      have hr : Rch net net.length (bitOf set) 0 i ↔ bitOf set i := Iff.rfl
      rw [hr] at hle
      unfold soFar
      by_cases g : bitOf set i
      · have := hle.2 g
        rw [if_pos g, if_pos (by omega), w64 (by omega) (by omega)]; omega
      · rw [if_neg g, if_neg (fun x => g (hle.1 (by omega))), w64 (by omega) (by omega)]; rfl
    simp only [rdn, e1]
    clear e1
    simp (disch := omega) only [if_pos, if_neg, w64, rdn, rd0, tn, sc, Option.bind_some, ↓reduceIte, Bool.false_eq_true, Bool.true_eq_false]
    exact hn
theorem spec_ArrivalRow_ev (net : List Int) (kinds set : Int) (hl : net.length ≤ 1048576) : Ev (fun k => spec_ArrivalRow.f k net kinds set) (arrivalRow net kinds set) := by
  unfold spec_ArrivalRow.f
  simp only [Option.bind_some]
  refine Ev.bind (spec_NetOk_ev net hl) ?_
  have hno : ∀ (h : ¬ WaveP net kinds set), Ev (fun k => spec_ArrivalRow.j0 k net kinds set [] true) (arrivalRow net kinds set) := by
    intro h
    rw [arrivalRow_no h]
    refine Ev.step (fun k => spec_ArrivalRow.j0.eq_2 ..) ?_
    simp (disch := omega) only [if_pos, if_neg, w64, rdn, rd0, tn, sc, Option.bind_some, ↓reduceIte, Bool.false_eq_true, Bool.true_eq_false]
    exact Ev.now _
  by_cases h1 : NetP net
  · simp only [h1, decide_true, if_true, spec_l1In_eq, Option.bind_some]
    by_cases h3 : 3 ≤ kinds ∧ kinds ≤ 5
    · have hp := pow_lt63 (show net.length ≤ 62 by have := h1.2.1; omega)
      have hp0 := pow_pos2 net.length
      rw [shl1 (show net.length ≤ 62 by have := h1.2.1; omega), w64 (n := 2 ^ net.length - 1) (by omega) (by omega)]
      have e3 : decide (3 ≤ kinds ∧ kinds ≤ 5) = true := decide_eq_true h3
      simp only [e3, if_true]
      by_cases h2 : 0 ≤ set ∧ set ≤ 2 ^ net.length - 1
      · have e2 : decide (0 ≤ set ∧ set ≤ 2 ^ net.length - 1) = true := decide_eq_true h2
        have hS : SetP net set := ⟨h1, h2.1, by omega⟩
        rw [arrivalRow_yes ⟨hS, h3.1, h3.2⟩]
        simp only [e2, Bool.not_true]
        refine Ev.step (fun k => spec_ArrivalRow.j0.eq_2 ..) ?_
        simp only [Bool.false_eq_true, if_false]
        refine Ev.bind (spec_LitState_ev net.length h1.1 h1.2.1 set hS.2.1 hS.2.2) ?_
        exact spec_ArrivalRow_l0 net kinds set h1 h3.1 h3.2 _ 0 rfl (by omega)
      · have e2 : decide (0 ≤ set ∧ set ≤ 2 ^ net.length - 1) = false := decide_eq_false h2
        simp only [e2, Bool.not_false]
        exact hno (fun h => h2 ⟨h.1.2.1, by have := h.1.2.2; omega⟩)
    · have e3 : decide (3 ≤ kinds ∧ kinds ≤ 5) = false := decide_eq_false h3
      simp only [e3, Bool.false_eq_true, if_false]
      exact hno (fun h => h3 h.2)
  · simp only [h1, decide_false, Bool.false_eq_true, if_false]
    exact hno (fun h => h1 h.1.1)

-- needs Fire
theorem or_one {net : List Int} {set : Int} (h : SetP net set) : SetP net (Go.bits .or .i64 set 1) ∧ ∀ k : Nat, bitOf (Go.bits .or .i64 set 1) k ↔ (bitOf set k ∨ bitOf 1 k) := by
  have hn := h.1
  have hn6 := hn.2.1
  have hn1 := hn.1
  obtain ⟨m, rfl⟩ := Int.eq_ofNat_of_zero_le h.2.1
  have hm : m < 2 ^ net.length := by have := h.2.2; rw [two_pow_cast] at this; omega
  have h1 : 1 < 2 ^ net.length := Nat.one_lt_two_pow (by omega)
  have hp : 2 ^ net.length ≤ 2 ^ 6 := Nat.pow_le_pow_right (by decide) hn6
  have e := (bits_small m 1 (by omega) (by omega)).2
  have e' : Go.bits .or .i64 (m : Int) 1 = ((m ||| 1 : Nat) : Int) := e
  have hor := Nat.or_lt_two_pow hm h1
  rw [e']
  refine ⟨⟨hn, Int.natCast_nonneg _, by rw [two_pow_cast]; omega⟩, fun k => ?_⟩
  have e1 : bitOf (1 : Int) k ↔ (1 : Nat).testBit k = true := bit_cast 1 k
  have e2 : bitOf (m : Int) k ↔ m.testBit k = true := bit_cast m k
  have e3 : bitOf ((m ||| 1 : Nat) : Int) k ↔ (m ||| 1).testBit k = true := bit_cast _ k
  rw [e1, e2, e3, Nat.testBit_or, Bool.or_eq_true]
theorem FnTwoWaves_l0 (net : List Int) (kinds set : Int) (h : WaveP net kinds set) : ∀ (d i : Nat), i + d = net.length →
    Ev (fun k => laws_FnTwoWaves.l0 k net (distRow net (Go.bits .or .i64 set 1)) (distRow net set) (distRow net 1) (i : Int)) true := by
  intro d
  have h6 := h.1.1.2.1
  have l1 := distRow_length net (Go.bits .or .i64 set 1)
  have l2 := distRow_length net set
  have l3 := distRow_length net 1
  induction d with
  | zero =>
    intro i hd
    refine Ev.step (fun k => laws_FnTwoWaves.l0.eq_2 ..) ?_
    simp (disch := omega) only [if_pos, if_neg, w64, rdn, rd0, tn, sc, Option.bind_some, ↓reduceIte, Bool.false_eq_true, Bool.true_eq_false]
    refine Ev.bind alive_ev ?_
    exact Ev.now _
  | succ d ih =>
    intro i hd
    refine Ev.step (fun k => laws_FnTwoWaves.l0.eq_2 ..) ?_
    have hn := ih (i + 1) (by omega)
    have e0 : (((distRow net set).length : Int) != (net.length : Int)) = false := by rw [l2]; simp
    simp only [e0]
    clear e0
    simp (disch := omega) only [if_pos, if_neg, w64, rdn, rd0, tn, sc, Option.bind_some, ↓reduceIte, Bool.false_eq_true, Bool.true_eq_false]
    refine Ev.step (fun k => laws_FnTwoWaves.j2.eq_2 ..) ?_
    have g1 := G_distRow (set := Go.bits .or .i64 set 1) (show i < net.length by omega)
    have g2 := G_distRow (set := set) (show i < net.length by omega)
    have g3 := G_distRow (set := 1) (show i < net.length by omega)
    rw [distOf_congr (or_one h.1).2 i, distOf_or net net.length (bitOf set) (bitOf 1) i] at g1
    have b2 := distOf_bd (net := net) (S := bitOf set) (show i < net.length by omega)
    have b3 := distOf_bd (net := net) (S := bitOf 1) (show i < net.length by omega)
    simp only [rdn, g2, g3, mn, mx]
    have key : ∀ A B C : Int, -1 ≤ A → -1 ≤ B → C = (if A < 0 then B else if B < 0 then A else if A < B then A else B) → (if (if A < B then A else B) < 0 then C = (if A < B then B else A) else C = (if A < B then A else B)) := by
      intro A B C hA hB e
      by_cases x1 : A < 0
      · rw [if_pos x1] at e
        by_cases x2 : A < B
        · rw [if_pos x2, if_pos x1, if_pos x2]; omega
        · rw [if_neg x2, if_pos (by omega), if_neg x2]; omega
      · rw [if_neg x1] at e
        by_cases x3 : B < 0
        · rw [if_pos x3] at e
          rw [if_neg (show ¬ A < B by omega), if_pos x3]; simp only [show ¬ A < B by omega, if_false]; exact e
        · rw [if_neg x3] at e
          by_cases x2 : A < B
          · rw [if_pos x2] at e; rw [if_pos x2, if_neg x1]; exact e
          · rw [if_neg x2] at e; rw [if_neg x2, if_neg x3]; exact e
    have hk := key _ _ _ b2.1 b3.1 g1
    clear key g1 g2 g3
    generalize distOf net net.length (bitOf set) i = A at hk b2 ⊢
    generalize distOf net net.length (bitOf 1) i = B at hk b3 ⊢
    generalize G (distRow net (Go.bits .or .i64 set 1)) i = C at hk ⊢
    by_cases x : (if A < B then A else B) < 0
    · rw [if_pos x] at hk
      simp only [x, hk]
      simp (disch := omega) only [if_pos, if_neg, w64, rdn, rd0, tn, sc, Option.bind_some, ↓reduceIte, Bool.false_eq_true, Bool.true_eq_false]
      exact hn
    · rw [if_neg x] at hk
      simp only [x, hk]
      simp (disch := omega) only [if_pos, if_neg, w64, rdn, rd0, tn, sc, Option.bind_some, ↓reduceIte, Bool.false_eq_true, Bool.true_eq_false]
      exact hn
theorem FnTwoWaves : laws_FnTwoWaves.Pure := by
  intro l _ _ hwf
  refine Ev.rounds (r := true) ?_
  obtain ⟨net, kinds, set, hr, h6⟩ := DrawArrivalRow_ev l hwf
  unfold laws_FnTwoWaves.f
  by_cases hl : l.length ≤ 1048576
  · simp (disch := omega) only [if_pos, if_neg, w64, rdn, rd0, tn, sc, Option.bind_some, ↓reduceIte, Bool.false_eq_true, Bool.true_eq_false]
    refine Ev.bind hr ?_
    refine Ev.bind (impl_ArrivalRow_ev net kinds _ (by omega)) ?_
    refine Ev.bind (impl_ArrivalRow_ev net kinds set (by omega)) ?_
    refine Ev.bind (impl_ArrivalRow_ev net kinds 1 (by omega)) ?_
    by_cases h : WaveP net kinds set
    · have ho := or_one h.1
      have hn1 := h.1.1.1
      have h1 : SetP net 1 := ⟨h.1.1, by omega, by
        have : (1 : Nat) < 2 ^ net.length := Nat.one_lt_two_pow (by omega)
        rw [two_pow_cast]; omega⟩
      rw [arrivalRow_yes h, arrivalRow_yes ⟨ho.1, h.2⟩, arrivalRow_yes ⟨h1, h.2⟩]
      have l1 := distRow_length net (Go.bits .or .i64 set 1)
      have l2 := distRow_length net set
      have e2 : (((distRow net set).length : Int) == 0) = false := beq_eq_false_iff_ne.2 (by omega)
      simp only [e2]
      clear e2
      simp (disch := omega) only [if_pos, if_neg, w64, rdn, rd0, tn, sc, Option.bind_some, ↓reduceIte, Bool.false_eq_true, Bool.true_eq_false]
      refine Ev.step (fun k => laws_FnTwoWaves.j0.eq_2 ..) ?_
      simp (disch := omega) only [if_pos, if_neg, w64, rdn, rd0, tn, sc, Option.bind_some, ↓reduceIte, Bool.false_eq_true, Bool.true_eq_false]
      exact FnTwoWaves_l0 net kinds set h net.length 0 (by omega)
    · have hj : ∀ b c : List Int, Ev (fun k => laws_FnTwoWaves.j0 k net kinds set b [] c true) true := by
        intro b c
        refine Ev.step (fun k => laws_FnTwoWaves.j0.eq_2 ..) ?_
        simp (disch := omega) only [if_pos, if_neg, w64, rdn, rd0, tn, sc, Option.bind_some, ↓reduceIte, Bool.false_eq_true, Bool.true_eq_false]
        refine Ev.bind (spec_ArrivalRow_ev net kinds set (by omega)) ?_
        rw [arrivalRow_no h]
        have e0 : ([] : List Int).length = 0 := rfl
        simp only [e0]
        simp (disch := omega) only [if_pos, if_neg, w64, rdn, rd0, tn, sc, Option.bind_some, ↓reduceIte, Bool.false_eq_true, Bool.true_eq_false]
        refine Ev.bind alive_ev ?_
        exact Ev.now _
      rw [arrivalRow_no h]
      have e0 : ([] : List Int).length = 0 := rfl
      have e1 : (((0 : Nat) : Int) == 0) = true := rfl
      simp only [e0, e1]
      by_cases hb : (arrivalRow net kinds (Go.bits .or .i64 set 1)).length = 0
      · simp (disch := omega) only [if_pos, if_neg, w64, rdn, rd0, tn, sc, Option.bind_some, ↓reduceIte, Bool.false_eq_true, Bool.true_eq_false]
        exact hj _ _
      · simp (disch := omega) only [if_pos, if_neg, w64, rdn, rd0, tn, sc, Option.bind_some, ↓reduceIte, Bool.false_eq_true, Bool.true_eq_false]
        exact hj _ _
  · simp (disch := omega) only [if_pos, if_neg, w64, rdn, rd0, tn, sc, Option.bind_some, ↓reduceIte, Bool.false_eq_true, Bool.true_eq_false]
    exact Ev.now _

end Go.Proofs.Ytcjjiajcjooccaa.Pure
