/- Proved: the statement FnLightsGrow, for every input, without further conditions. -/
import Derived.Test.YtgkjapgfldnjkaaPFnLightsGrowx7
import Derived.Test.YtgkjapgfldnjkaaBase
import Derived.Test.YtgkjapgfldnjkaaFire
import Derived.Test.YtgkjapgfldnjkaaLights
namespace Go.Proofs.Ytgkjapgfldnjkaa.Pure
open Go.RowKit Go.Proofs.Ytgkjapgfldnjkaa.PFnLightsGrow Go.Proofs.YtgkjapgfldnjkaaW.PrintWords Go.Proofs.YtgkjapgfldnjkaaW.PrintLast Go.Proofs.Ytgkjapgfldnjkaa.B Go.Proofs.Ytgkjapgfldnjkaa.C
set_option linter.unusedSimpArgs false
set_option linter.unusedVariables false

theorem impl_NetOk_l1 (l : List Int) (h6 : l.length ≤ 6) (i : Nat) (hi : i < l.length) (r : Bool)
    (hbad : ∀ k, k < l.length → ¬ (adj l i k ↔ adj l k i) → r = false)
    (hgood : (∀ k, k < l.length → (adj l i k ↔ adj l k i)) → Ev (fun k => impl_NetOk.l0 k l l (l.length : Int) ((i + 1 : Nat) : Int)) r) :
    ∀ (d : Nat) (j : Nat), l.length - j = d → j ≤ l.length → (∀ k, k < j → (adj l i k ↔ adj l k i)) →
      Ev (fun k => impl_NetOk.l1 k l (i : Int) (G l i) l (l.length : Int) (i : Int) (l.length : Int) (j : Int)) r := by
  intro d
  induction d with
  | zero =>
    intro j hd hj hk
    refine Ev.step (fun k => impl_NetOk.l1.eq_2 ..) ?_
    simp (disch := omega) only [if_pos, if_neg, w64, rdn, rd0, tn, sc, Option.bind_some, ↓reduceIte, Bool.false_eq_true, Bool.true_eq_false]
    exact hgood (fun k hkl => hk k (by omega))
  | succ d ih =>
    intro j hd hj hk
    refine Ev.step (fun k => impl_NetOk.l1.eq_2 ..) ?_
    have b1 := bit_and (G l i) (j := j) (by omega)
    have b2 := bit_and (G l j) (j := i) (by omega)
    have m1 := Int.emod_two_eq (G l i / 2 ^ j)
    have m2 := Int.emod_two_eq (G l j / 2 ^ i)
    by_cases e : adj l i j ↔ adj l j i
    · have e' : G l i / 2 ^ j % 2 = G l j / 2 ^ i % 2 := by
        unfold adj at e
        by_cases c : G l i / 2 ^ j % 2 = 1
        · rw [c, e.1 c]
        · have c2 := fun h => c (e.2 h)
          omega
      simp only [rdn, b1, b2]
      simp (disch := omega) only [if_pos, if_neg, w64, rdn, rd0, tn, sc, Option.bind_some, ↓reduceIte, Bool.false_eq_true, Bool.true_eq_false]
      refine ih _ (by omega) (by omega) ?_
      intro k hkj
      by_cases e' : k = j
      · subst e'; exact e
      · exact hk k (by omega)
    · have e' : ¬ G l i / 2 ^ j % 2 = G l j / 2 ^ i % 2 := by
        intro h
        apply e
        unfold adj
        rw [h]
      simp only [rdn, b1, b2]
      simp (disch := omega) only [if_pos, if_neg, w64, rdn, rd0, tn, sc, Option.bind_some, ↓reduceIte, Bool.false_eq_true, Bool.true_eq_false]
      exact Ev.val (hbad j (by omega) e).symm
theorem impl_NetOk_l0 (l : List Int) (h1 : 1 ≤ l.length) (h6 : l.length ≤ 6) : ∀ (d : Nat) (i : Nat), l.length - i = d → i ≤ l.length →
    (∀ j, j < i → (0 ≤ G l j ∧ G l j < 2 ^ l.length ∧ ¬ adj l j j ∧ ∀ k, k < l.length → (adj l j k ↔ adj l k j))) → Ev (fun k => impl_NetOk.l0 k l l (l.length : Int) (i : Int)) (decide (NetP l)) := by
  intro d
  induction d with
  | zero =>
    intro i hd hi hj
    refine Ev.step (fun k => impl_NetOk.l0.eq_2 ..) ?_
    simp (disch := omega) only [if_pos, if_neg, w64, rdn, rd0, tn, sc, Option.bind_some, ↓reduceIte, Bool.false_eq_true, Bool.true_eq_false]
    have : NetP l := ⟨h1, h6, fun j h => hj j (by omega)⟩
    exact Ev.val (by simp [this])
  | succ d ih =>
    intro i hd hi hj
    refine Ev.step (fun k => impl_NetOk.l0.eq_2 ..) ?_
    have hs := shl1 (n := l.length) (by omega)
    have hb := bit_and (G l i) (j := i) (by omega)
    simp only [rdn, hs, hb]
    have bad : ¬ (0 ≤ G l i ∧ G l i < 2 ^ l.length ∧ ¬ adj l i i) → decide (NetP l) = false := by
      intro h
      have : ¬ NetP l := fun p => h ⟨(p.2.2 i (by omega)).1, (p.2.2 i (by omega)).2.1, (p.2.2 i (by omega)).2.2.1⟩
      simp [this]
    by_cases e0 : G l i < 0
    · simp (disch := omega) only [if_pos, if_neg, w64, rdn, rd0, tn, sc, Option.bind_some, ↓reduceIte, Bool.false_eq_true, Bool.true_eq_false]
      refine Ev.step (fun k => impl_NetOk.j2.eq_2 ..) ?_
      simp (disch := omega) only [if_pos, if_neg, w64, rdn, rd0, tn, sc, Option.bind_some, ↓reduceIte, Bool.false_eq_true, Bool.true_eq_false]
      exact Ev.val (bad (by omega)).symm
    · by_cases e1 : G l i ≥ 2 ^ l.length
      · simp (disch := omega) only [if_pos, if_neg, w64, rdn, rd0, tn, sc, Option.bind_some, ↓reduceIte, Bool.false_eq_true, Bool.true_eq_false]
        refine Ev.step (fun k => impl_NetOk.j2.eq_2 ..) ?_
        simp (disch := omega) only [if_pos, if_neg, w64, rdn, rd0, tn, sc, Option.bind_some, ↓reduceIte, Bool.false_eq_true, Bool.true_eq_false]
        exact Ev.val (bad (by omega)).symm
      · simp (disch := omega) only [if_pos, if_neg, w64, rdn, rd0, tn, sc, Option.bind_some, ↓reduceIte, Bool.false_eq_true, Bool.true_eq_false]
        refine Ev.step (fun k => impl_NetOk.j2.eq_2 ..) ?_
        by_cases e2 : G l i / 2 ^ i % 2 = 1
        · have e3 : (G l i / 2 ^ i % 2 == 1) = true := by simp [e2]
          simp only [e3]
          simp (disch := omega) only [if_pos, if_neg, w64, rdn, rd0, tn, sc, Option.bind_some, ↓reduceIte, Bool.false_eq_true, Bool.true_eq_false]
          exact Ev.val (bad (fun h => h.2.2 e2)).symm
        · have e3 : (G l i / 2 ^ i % 2 == 1) = false := by simp [e2]
          simp only [e3]
          simp (disch := omega) only [if_pos, if_neg, w64, rdn, rd0, tn, sc, Option.bind_some, ↓reduceIte, Bool.false_eq_true, Bool.true_eq_false]
          refine impl_NetOk_l1 l h6 i (by omega) _ ?_ ?_ _ 0 rfl (by omega) (fun k h => by omega)
          · intro k hk hn
            have : ¬ NetP l := fun p => hn ((p.2.2 i (by omega)).2.2.2 k hk)
            simp [this]
          · intro hall
            refine ih _ (by omega) (by omega) ?_
            intro j hji
            by_cases e' : j = i
            · subst e'; exact ⟨by omega, by omega, e2, hall⟩
            · exact hj j (by omega)
theorem impl_NetOk_ev (l : List Int) (hl : l.length ≤ 1048576) : Ev (fun k => impl_NetOk.f k l) (decide (NetP l)) := by
  unfold impl_NetOk.f
  by_cases h1 : l.length < 1
  · simp (disch := omega) only [if_pos, if_neg, w64, rdn, rd0, tn, sc, Option.bind_some, ↓reduceIte, Bool.false_eq_true, Bool.true_eq_false]
    refine Ev.step (fun k => impl_NetOk.j0.eq_2 ..) ?_
    simp (disch := omega) only [if_pos, if_neg, w64, rdn, rd0, tn, sc, Option.bind_some, ↓reduceIte, Bool.false_eq_true, Bool.true_eq_false]
    have : ¬ NetP l := fun p => by have := p.1; omega
    exact Ev.val (by simp [this])
  · simp (disch := omega) only [if_pos, if_neg, w64, rdn, rd0, tn, sc, Option.bind_some, ↓reduceIte, Bool.false_eq_true, Bool.true_eq_false]
    refine Ev.step (fun k => impl_NetOk.j0.eq_2 ..) ?_
    by_cases h6 : l.length > 6
    · have : decide ((l.length : Int) > 6) = true := by simp; omega
      simp only [this]
      simp (disch := omega) only [if_pos, if_neg, w64, rdn, rd0, tn, sc, Option.bind_some, ↓reduceIte, Bool.false_eq_true, Bool.true_eq_false]
      have : ¬ NetP l := fun p => by have := p.2.1; omega
      exact Ev.val (by simp [this])
    · have : decide ((l.length : Int) > 6) = false := by simp; omega
      simp only [this]
      simp (disch := omega) only [if_pos, if_neg, w64, rdn, rd0, tn, sc, Option.bind_some, ↓reduceIte, Bool.false_eq_true, Bool.true_eq_false]
      exact impl_NetOk_l0 l (by omega) (by omega) _ 0 rfl (by omega) (fun j h => by omega)

theorem alive_ev : Ev (fun k => laws_alive.f k) true := by
  unfold laws_alive.f
  refine Ev.bind (impl_NetOk_ev _ (by decide)) ?_
  have e1 : decide (NetP [2, 1]) = true := by decide
  simp only [e1]
  simp (disch := omega) only [if_pos, if_neg, w64, rdn, rd0, tn, sc, Option.bind_some, ↓reduceIte, Bool.false_eq_true, Bool.true_eq_false]
  refine Ev.bind (impl_NetOk_ev _ (by decide)) ?_
  have e2 : decide (NetP [1]) = false := by decide
  simp only [e2, Bool.not_false]
  exact Ev.now _

/-- A reader's bytes. -/
def RdOk (b : List Int) : Prop := b.length ≤ 2000 ∧ ∀ i, 0 ≤ G b i ∧ G b i ≤ 255
theorem spec_l20Open_eq (l : List Int) (h : ∀ x ∈ l, (Lit.int .u8 x).wf = true) : ∃ b, spec_l20Open.f l = some (b, 0) ∧ RdOk b := by
  have hl : ∀ i, 0 ≤ G l i ∧ G l i ≤ 255 := by
    intro i
    by_cases e : i < l.length
    · exact wf_u8.1 (h _ (G_mem e))
    · rw [G_of_ge (by omega)]; omega
  unfold spec_l20Open.f
  by_cases e : l.length > 2000
  · simp (disch := omega) only [if_pos, if_neg, w64, rdn, rd0, tn, sc, Option.bind_some, ↓reduceIte, Bool.false_eq_true, Bool.true_eq_false]
    refine ⟨_, rfl, by simp; omega, fun i => ?_⟩
    by_cases ei : i < 2000
    · rw [G_take ei]; exact hl i
    · rw [G_of_ge (by simp; omega)]; omega
  · simp (disch := omega) only [if_pos, if_neg, w64, rdn, rd0, tn, sc, Option.bind_some, ↓reduceIte, Bool.false_eq_true, Bool.true_eq_false]
    exact ⟨_, rfl, by omega, hl⟩

theorem xor_nn {a b : Int} (ha : 0 ≤ a) (ha' : a < 4611686018427387904) (hb : 0 ≤ b) (hb' : b < 4611686018427387904) : 0 ≤ Go.bits .xor .i64 a b := by
  obtain ⟨m, rfl⟩ := Int.eq_ofNat_of_zero_le ha
  obtain ⟨n, rfl⟩ := Int.eq_ofNat_of_zero_le hb
  show 0 ≤ IntKind.i64.wrap (((BitVec.ofInt 64 (m : Int) ^^^ BitVec.ofInt 64 (n : Int)).toNat : Nat) : Int)
  have hx : (BitVec.ofInt 64 (m : Int) ^^^ BitVec.ofInt 64 (n : Int)).toNat < 2 ^ 62 := by
    rw [BitVec.toNat_xor]
    apply Nat.xor_lt_two_pow
    · rw [BitVec.ofInt_natCast, BitVec.toNat_ofNat, Nat.mod_eq_of_lt (by omega)]; omega
    · rw [BitVec.ofInt_natCast, BitVec.toNat_ofNat, Nat.mod_eq_of_lt (by omega)]; omega
  rw [i64_w, w64 (by omega) (by omega)]; omega
theorem pick_ev (b : List Int) (hb : RdOk b) (p n : Int) (hp : 0 ≤ p) (hp2 : p ≤ 1000000) (hn : n ≤ 1000000) :
    ∃ v, Ev (fun k => spec_l20Rd_pick.f k b p n) (v, p + 1) ∧ 0 ≤ v ∧ (1 ≤ n → v < n) ∧ (n < 1 → v = 0) := by
  obtain ⟨q, rfl⟩ := Int.eq_ofNat_of_zero_le hp
  unfold spec_l20Rd_pick.f
  have hw : wrap64 ((q : Int) + 1) = (q : Int) + 1 := w64 (by omega) (by omega)
  have hw2 : wrap64 ((q : Int) + 1 - 1) = (q : Int) := by rw [w64 (by omega) (by omega)]; omega
  by_cases h1 : n < 1
  · refine ⟨0, ?_, by omega, fun h => by omega, fun _ => rfl⟩
    simp only [hw]
    rw [show (fun k => if n < 1 then spec_l20Rd_pick.j0 k n true b ((q : Int) + 1) else spec_l20Rd_pick.j0 k n ((b.length : Int) == 0) b ((q : Int) + 1)) = (fun k => spec_l20Rd_pick.j0 k n true b ((q : Int) + 1)) from funext fun k => if_pos h1]
    refine Ev.step (fun k => spec_l20Rd_pick.j0.eq_2 ..) ?_
    simp only [↓reduceIte]
    exact Ev.now _
  · simp only [hw]
    rw [show (fun k => if n < 1 then spec_l20Rd_pick.j0 k n true b ((q : Int) + 1) else spec_l20Rd_pick.j0 k n ((b.length : Int) == 0) b ((q : Int) + 1)) = (fun k => spec_l20Rd_pick.j0 k n ((b.length : Int) == 0) b ((q : Int) + 1)) from funext fun k => if_neg h1]
    by_cases h0 : b.length = 0
    · refine ⟨0, ?_, by omega, fun h => by omega, fun _ => rfl⟩
      have : ((b.length : Int) == 0) = true := beq_iff_eq.2 (by omega)
      rw [this]
      refine Ev.step (fun k => spec_l20Rd_pick.j0.eq_2 ..) ?_
      simp only [↓reduceIte]
      exact Ev.now _
    · have hz : ((b.length : Int) == 0) = false := beq_eq_false_iff_ne.2 (by omega)
      rw [hz]
      by_cases hq : q < b.length
      · have hg := hb.2 q
        have hwg : wrap64 (G b q) = G b q := w64 (by omega) (by omega)
        refine ⟨G b q % n, ?_, Int.emod_nonneg _ (by omega), fun h => Int.emod_lt_of_pos _ (by omega), fun h => absurd h h1⟩
        refine Ev.step (fun k => spec_l20Rd_pick.j0.eq_2 ..) ?_
        simp only [hw2, rdn, hwg]
        rw [tmod_nn hg.1]
        simp (disch := omega) only [if_pos, if_neg, w64, rdn, rd0, tn, sc, Option.bind_some, ↓reduceIte, Bool.false_eq_true, Bool.true_eq_false]
        exact Ev.now _
      · have hL := hb.1
        have hm1 : q % b.length < b.length := Nat.mod_lt _ (by omega)
        have hm2 : (q * 7 + 3) % b.length < b.length := Nat.mod_lt _ (by omega)
        have e1 : Int.tmod (q : Int) (b.length : Int) = ((q % b.length : Nat) : Int) := by rw [tmod_nn (by omega)]; rfl
        have e2 : wrap64 (wrap64 ((q : Int) * 7) + 3) = ((q * 7 + 3 : Nat) : Int) := by rw [w64 (n := (q : Int) * 7) (by omega) (by omega), w64 (by omega) (by omega)]; omega
        have e3 : Int.tmod ((q * 7 + 3 : Nat) : Int) (b.length : Int) = (((q * 7 + 3) % b.length : Nat) : Int) := by rw [tmod_nn (by omega)]; rfl
        obtain ⟨Q, hQ⟩ : ∃ Q, Q = q / b.length := ⟨_, rfl⟩
        have hd : Q ≤ q := by rw [hQ]; exact Nat.div_le_self _ _
        have e4 : Int.tdiv (q : Int) (b.length : Int) = (Q : Int) := by rw [tdiv_nn (by omega), hQ]; rfl
        clear hQ
        have g1 := hb.2 (q % b.length)
        have g2 := hb.2 ((q * 7 + 3) % b.length)
        have f1 : wrap64 (wrap64 (G b (q % b.length)) * 131) = G b (q % b.length) * 131 := by rw [w64 (n := G b (q % b.length)) (by omega) (by omega), w64 (by omega) (by omega)]
        have f2 : wrap64 (wrap64 (G b ((q * 7 + 3) % b.length)) * 1117) = G b ((q * 7 + 3) % b.length) * 1117 := by rw [w64 (n := G b ((q * 7 + 3) % b.length)) (by omega) (by omega), w64 (by omega) (by omega)]
        have f3 : wrap64 ((q : Int) * 29) = (q : Int) * 29 := w64 (by omega) (by omega)
        have f4 : wrap64 (wrap64 ((Q : Int)) * 53) = (Q : Int) * 53 := by rw [w64 (n := (Q : Int)) (by omega) (by omega), w64 (by omega) (by omega)]
        have f5 : wrap64 (G b (q % b.length) * 131 + G b ((q * 7 + 3) % b.length) * 1117) = G b (q % b.length) * 131 + G b ((q * 7 + 3) % b.length) * 1117 := w64 (by omega) (by omega)
        have f6 : wrap64 (G b (q % b.length) * 131 + G b ((q * 7 + 3) % b.length) * 1117 + (q : Int) * 29) = G b (q % b.length) * 131 + G b ((q * 7 + 3) % b.length) * 1117 + (q : Int) * 29 := w64 (by omega) (by omega)
        have f7 : wrap64 (G b (q % b.length) * 131 + G b ((q * 7 + 3) % b.length) * 1117 + (q : Int) * 29 + (Q : Int) * 53) = G b (q % b.length) * 131 + G b ((q * 7 + 3) % b.length) * 1117 + (q : Int) * 29 + (Q : Int) * 53 := w64 (by omega) (by omega)
        obtain ⟨X, hX⟩ : ∃ X, X = G b (q % b.length) * 131 + G b ((q * 7 + 3) % b.length) * 1117 + (q : Int) * 29 + (Q : Int) * 53 := ⟨_, rfl⟩
        have hX0 : 0 ≤ X := by omega
        have hX1 : X < 4611686018427387904 := by omega
        have f8 : wrap64 (Int.tdiv X 64) = X / 64 := by rw [tdiv_nn hX0, w64 (by omega) (by omega)]
        have f9 : wrap64 X = X := w64 (by omega) (by omega)
        have hx := xor_nn hX0 hX1 (b := X / 64) (by omega) (by omega)
        refine ⟨Go.bits .xor .i64 X (X / 64) % n, ?_, Int.emod_nonneg _ (by omega), fun h => Int.emod_lt_of_pos _ (by omega), fun h => absurd h h1⟩
        refine Ev.step (fun k => spec_l20Rd_pick.j0.eq_2 ..) ?_
        simp only [hw2, e1, e2, e3, e4, rdn, f1, f2, f3, f4, f5, f6, f7, ← hX, f9, f8]
        rw [tmod_nn hx]
        simp (disch := omega) only [if_pos, if_neg, w64, rdn, rd0, tn, sc, Option.bind_some, ↓reduceIte, Bool.false_eq_true, Bool.true_eq_false]
        exact Ev.now _

theorem spec_l1In_eq (a b c : Int) : spec_l1In.f a b c = some (decide (b ≤ a ∧ a ≤ c)) := by
  unfold spec_l1In.f
  by_cases h : b ≤ a <;> simp [h]

theorem RingNet_l0 (n : Nat) (h1 : 3 ≤ n) (h6 : n ≤ 6) : ∀ (d i : Nat) (x : List Int), n - i = d → i ≤ n → x.length = i → ∃ r, Ev (fun k => spec_RingNet.l0 k (n : Int) x (i : Int)) r ∧ r.length = n := by
  intro d
  induction d with
  | zero =>
    intro i x hd hi hx
    refine ⟨x, ?_, by omega⟩
    refine Ev.step (fun k => spec_RingNet.l0.eq_2 ..) ?_
    simp (disch := omega) only [if_pos, if_neg, w64, rdn, rd0, tn, sc, Option.bind_some, ↓reduceIte, Bool.false_eq_true, Bool.true_eq_false]
    exact Ev.now _
  | succ d ih =>
    intro i x hd hi hx
    have e1 : spec_l1In.f (n : Int) 3 6 = some true := by rw [spec_l1In_eq]; simp; omega
    have hw0 : wrap64 ((i : Int) + 1) = ((i + 1 : Nat) : Int) := by rw [w64 (by omega) (by omega)]; rfl
    have hw1 : wrap64 (wrap64 ((i : Int) + (n : Int)) - 1) = ((i + n - 1 : Nat) : Int) := by
      rw [w64 (n := (i : Int) + (n : Int)) (by omega) (by omega), w64 (by omega) (by omega)]; omega
    have hm0 : Int.tmod ((i + 1 : Nat) : Int) (n : Int) = (((i + 1) % n : Nat) : Int) := by rw [tmod_nn (by omega)]; rfl
    have hm1 : Int.tmod ((i + n - 1 : Nat) : Int) (n : Int) = (((i + n - 1) % n : Nat) : Int) := by rw [tmod_nn (by omega)]; rfl
    obtain ⟨r, hr, hl⟩ := ih (i + 1) (x ++ [Go.bits .or .i64 (shl .i64 1 (((i + 1) % n : Nat) : Int)) (shl .i64 1 (((i + n - 1) % n : Nat) : Int))]) (by omega) (by omega) (by simp [hx])
    refine ⟨r, ?_, hl⟩
    refine Ev.step (fun k => spec_RingNet.l0.eq_2 ..) ?_
    simp only [hw0, hw1, hm0, hm1, e1, Option.bind_some]
    clear hw0 hw1 hm0 hm1 e1
    simp (disch := omega) only [if_pos, if_neg, w64, rdn, rd0, tn, sc, Option.bind_some, ↓reduceIte, Bool.false_eq_true, Bool.true_eq_false]
    exact hr
theorem RingNet_ev (n : Nat) (h1 : 3 ≤ n) (h6 : n ≤ 6) : ∃ r, Ev (fun k => spec_RingNet.f k (n : Int)) r ∧ r.length = n := by
  unfold spec_RingNet.f
  exact RingNet_l0 n h1 h6 _ 0 [] rfl (by omega) rfl

theorem odd_ev (b : List Int) (hb : RdOk b) (p n : Int) (hp : 0 ≤ p) (hp2 : p ≤ 1000000) (hn : n ≤ 1000000) :
    ∃ c p', Ev (fun k => spec_l20Rd_odd.f k b p n) (c, p') ∧ p ≤ p' ∧ p' ≤ p + 1 ∧ (n ≤ 0 → c = false) := by
  unfold spec_l20Rd_odd.f
  by_cases h : n > 0
  · obtain ⟨v, hv, _⟩ := pick_ev b hb p n hp hp2 hn
    refine ⟨v == wrap64 (n - 1), p + 1, ?_, by omega, by omega, fun h' => by omega⟩
    simp (disch := omega) only [if_pos, if_neg, w64, rdn, rd0, tn, sc, Option.bind_some, ↓reduceIte, Bool.false_eq_true, Bool.true_eq_false]
    refine Ev.bind hv ?_
    exact Ev.now _
  · refine ⟨false, p, ?_, by omega, by omega, fun _ => rfl⟩
    simp (disch := omega) only [if_pos, if_neg, w64, rdn, rd0, tn, sc, Option.bind_some, ↓reduceIte, Bool.false_eq_true, Bool.true_eq_false]
    exact Ev.now _

theorem PathNet_l0 (n : Nat) (h1 : 1 ≤ n) (h6 : n ≤ 6) : ∀ (d i : Nat) (x : List Int), n - i = d → i ≤ n → x.length = i → ∃ r, Ev (fun k => spec_PathNet.l0 k (n : Int) x (i : Int)) r ∧ r.length = n := by
  intro d
  induction d with
  | zero =>
    intro i x hd hi hx
    refine ⟨x, ?_, by omega⟩
    refine Ev.step (fun k => spec_PathNet.l0.eq_2 ..) ?_
    simp (disch := omega) only [if_pos, if_neg, w64, rdn, rd0, tn, sc, Option.bind_some, ↓reduceIte, Bool.false_eq_true, Bool.true_eq_false]
    refine Ev.step (fun k => spec_PathNet.j1.eq_2 ..) ?_
    simp (disch := omega) only [if_pos, if_neg, w64, rdn, rd0, tn, sc, Option.bind_some, ↓reduceIte, Bool.false_eq_true, Bool.true_eq_false]
    exact Ev.now _
  | succ d ih =>
    intro i x hd hi hx
    have e1 : spec_l1In.f (n : Int) 1 6 = some true := by rw [spec_l1In_eq]; simp; omega
    have hw0 : wrap64 ((i : Int) + 1) = ((i + 1 : Nat) : Int) := by rw [w64 (by omega) (by omega)]; rfl
    have next : ∀ v, ∃ r, Ev (fun k => spec_PathNet.l0 k (n : Int) (x ++ [v]) ((i + 1 : Nat) : Int)) r ∧ r.length = n := fun v => ih (i + 1) _ (by omega) (by omega) (by simp [hx])
    by_cases hi0 : 0 < i
    · have hw : wrap64 ((i : Int) - 1) = ((i - 1 : Nat) : Int) := by rw [w64 (by omega) (by omega)]; omega
      by_cases hn : i + 1 < n
      · obtain ⟨r, hr, hl⟩ := next (Go.bits .or .i64 (Go.bits .or .i64 0 (shl .i64 1 ((i - 1 : Nat) : Int))) (shl .i64 1 ((i + 1 : Nat) : Int)))
        refine ⟨r, ?_, hl⟩
        refine Ev.step (fun k => spec_PathNet.l0.eq_2 ..) ?_
        simp (disch := omega) only [if_pos, if_neg, w64, rdn, rd0, tn, sc, Option.bind_some, ↓reduceIte, Bool.false_eq_true, Bool.true_eq_false]
        simp only [e1, Option.bind_some]
        refine Ev.step (fun k => spec_PathNet.j1.eq_2 ..) ?_
        simp only [hw, hw0]
        simp (disch := omega) only [if_pos, if_neg, w64, rdn, rd0, tn, sc, Option.bind_some, ↓reduceIte, Bool.false_eq_true, Bool.true_eq_false]
        exact hr
      · obtain ⟨r, hr, hl⟩ := next (Go.bits .or .i64 0 (shl .i64 1 ((i - 1 : Nat) : Int)))
        refine ⟨r, ?_, hl⟩
        refine Ev.step (fun k => spec_PathNet.l0.eq_2 ..) ?_
        simp (disch := omega) only [if_pos, if_neg, w64, rdn, rd0, tn, sc, Option.bind_some, ↓reduceIte, Bool.false_eq_true, Bool.true_eq_false]
        simp only [e1, Option.bind_some]
        refine Ev.step (fun k => spec_PathNet.j1.eq_2 ..) ?_
        simp only [hw, hw0]
        simp (disch := omega) only [if_pos, if_neg, w64, rdn, rd0, tn, sc, Option.bind_some, ↓reduceIte, Bool.false_eq_true, Bool.true_eq_false]
        exact hr
    · by_cases hn : i + 1 < n
      · obtain ⟨r, hr, hl⟩ := next (Go.bits .or .i64 0 (shl .i64 1 ((i + 1 : Nat) : Int)))
        refine ⟨r, ?_, hl⟩
        refine Ev.step (fun k => spec_PathNet.l0.eq_2 ..) ?_
        simp (disch := omega) only [if_pos, if_neg, w64, rdn, rd0, tn, sc, Option.bind_some, ↓reduceIte, Bool.false_eq_true, Bool.true_eq_false]
        simp only [e1, Option.bind_some]
        refine Ev.step (fun k => spec_PathNet.j1.eq_2 ..) ?_
        simp only [hw0]
        simp (disch := omega) only [if_pos, if_neg, w64, rdn, rd0, tn, sc, Option.bind_some, ↓reduceIte, Bool.false_eq_true, Bool.true_eq_false]
        exact hr
      · obtain ⟨r, hr, hl⟩ := next 0
        refine ⟨r, ?_, hl⟩
        refine Ev.step (fun k => spec_PathNet.l0.eq_2 ..) ?_
        simp (disch := omega) only [if_pos, if_neg, w64, rdn, rd0, tn, sc, Option.bind_some, ↓reduceIte, Bool.false_eq_true, Bool.true_eq_false]
        simp only [e1, Option.bind_some]
        refine Ev.step (fun k => spec_PathNet.j1.eq_2 ..) ?_
        simp only [hw0]
        simp (disch := omega) only [if_pos, if_neg, w64, rdn, rd0, tn, sc, Option.bind_some, ↓reduceIte, Bool.false_eq_true, Bool.true_eq_false]
        exact hr
theorem PathNet_ev (n : Nat) (h1 : 1 ≤ n) (h6 : n ≤ 6) : ∃ r, Ev (fun k => spec_PathNet.f k (n : Int)) r ∧ r.length = n := by
  unfold spec_PathNet.f
  exact PathNet_l0 n h1 h6 _ 0 [] rfl (by omega) rfl

theorem l20Net_l0 (b : List Int) (hb : RdOk b) (n : Int) (hn : n ≤ 1000000) (nodes : Nat) (h1 : 1 ≤ nodes) (h6 : nodes ≤ 6) : ∀ (d : Nat) (x : List Int) (p : Int), x.length = nodes → 0 ≤ p → p ≤ 10000 - 2 * d →
    ∃ r p', Ev (fun k => spec_l20Net.l0 k n (nodes : Int) x (d : Int) b p) (r, p') ∧ p ≤ p' ∧ p' ≤ p + 2 * d + 2 ∧ r.length ≤ 6 := by
  intro d
  induction d with
  | zero =>
    intro x p hx hp hp2
    obtain ⟨c, p1, hc, hc1, hc2, _⟩ := odd_ev b hb p n hp (by omega) hn
    cases c with
    | false =>
      refine ⟨x, p1, ?_, by omega, by omega, by omega⟩
      refine Ev.step (fun k => spec_l20Net.l0.eq_2 ..) ?_
      simp (disch := omega) only [if_pos, if_neg, w64, rdn, rd0, tn, sc, Option.bind_some, ↓reduceIte, Bool.false_eq_true, Bool.true_eq_false]
      refine Ev.bind hc ?_
      simp (disch := omega) only [if_pos, if_neg, w64, rdn, rd0, tn, sc, Option.bind_some, ↓reduceIte, Bool.false_eq_true, Bool.true_eq_false]
      exact Ev.now _
    | true =>
      obtain ⟨v, hv, hv0, hv1, _⟩ := pick_ev b hb p1 3 (by omega) (by omega) (by omega)
      by_cases e0 : v = 0
      · refine ⟨[], p1 + 1, ?_, by omega, by omega, by simp⟩
        refine Ev.step (fun k => spec_l20Net.l0.eq_2 ..) ?_
        simp (disch := omega) only [if_pos, if_neg, w64, rdn, rd0, tn, sc, Option.bind_some, ↓reduceIte, Bool.false_eq_true, Bool.true_eq_false]
        refine Ev.bind hc ?_
        simp (disch := omega) only [if_pos, if_neg, w64, rdn, rd0, tn, sc, Option.bind_some, ↓reduceIte, Bool.false_eq_true, Bool.true_eq_false]
        refine Ev.bind hv ?_
        simp (disch := omega) only [if_pos, if_neg, w64, rdn, rd0, tn, sc, Option.bind_some, ↓reduceIte, Bool.false_eq_true, Bool.true_eq_false]
        exact Ev.now _
      · by_cases e1 : v = 1
        · refine ⟨x.set 0 (Go.bits .or .i64 (G x 0) 1), p1 + 1, ?_, by omega, by omega, by simp; omega⟩
          refine Ev.step (fun k => spec_l20Net.l0.eq_2 ..) ?_
          simp (disch := omega) only [if_pos, if_neg, w64, rdn, rd0, tn, sc, Option.bind_some, ↓reduceIte, Bool.false_eq_true, Bool.true_eq_false]
          refine Ev.bind hc ?_
          simp (disch := omega) only [if_pos, if_neg, w64, rdn, rd0, tn, sc, Option.bind_some, ↓reduceIte, Bool.false_eq_true, Bool.true_eq_false]
          refine Ev.bind hv ?_
          simp (disch := omega) only [if_pos, if_neg, w64, rdn, rd0, tn, sc, Option.bind_some, ↓reduceIte, Bool.false_eq_true, Bool.true_eq_false]
          exact Ev.now _
        · have hw : wrap64 ((nodes : Int) - 1) = (nodes : Int) - 1 := w64 (by omega) (by omega)
          by_cases e2 : nodes = 1
          · refine ⟨(x.set 0 (Go.bits .xor .i64 (G x 0) (shl .i64 1 ((nodes : Int) - 1)))).set 0 (-1), p1 + 1, ?_, by omega, by omega, by simp; omega⟩
            refine Ev.step (fun k => spec_l20Net.l0.eq_2 ..) ?_
            simp only [hw]
            simp (disch := omega) only [if_pos, if_neg, w64, rdn, rd0, tn, sc, Option.bind_some, ↓reduceIte, Bool.false_eq_true, Bool.true_eq_false]
            refine Ev.bind hc ?_
            simp (disch := omega) only [if_pos, if_neg, w64, rdn, rd0, tn, sc, Option.bind_some, ↓reduceIte, Bool.false_eq_true, Bool.true_eq_false]
            refine Ev.bind hv ?_
            simp (disch := omega) only [if_pos, if_neg, w64, rdn, rd0, tn, sc, Option.bind_some, ↓reduceIte, Bool.false_eq_true, Bool.true_eq_false]
            exact Ev.now _
          · refine ⟨x.set 0 (Go.bits .xor .i64 (G x 0) (shl .i64 1 ((nodes : Int) - 1))), p1 + 1, ?_, by omega, by omega, by simp; omega⟩
            refine Ev.step (fun k => spec_l20Net.l0.eq_2 ..) ?_
            simp only [hw]
            simp (disch := omega) only [if_pos, if_neg, w64, rdn, rd0, tn, sc, Option.bind_some, ↓reduceIte, Bool.false_eq_true, Bool.true_eq_false]
            refine Ev.bind hc ?_
            simp (disch := omega) only [if_pos, if_neg, w64, rdn, rd0, tn, sc, Option.bind_some, ↓reduceIte, Bool.false_eq_true, Bool.true_eq_false]
            refine Ev.bind hv ?_
            simp (disch := omega) only [if_pos, if_neg, w64, rdn, rd0, tn, sc, Option.bind_some, ↓reduceIte, Bool.false_eq_true, Bool.true_eq_false]
            exact Ev.now _
  | succ d ih =>
    intro x p hx hp hp2
    obtain ⟨v, hv, hv0, hv1, _⟩ := pick_ev b hb p (nodes : Int) hp (by omega) (by omega)
    obtain ⟨u, hu, hu0, hu1, _⟩ := pick_ev b hb (p + 1) (nodes : Int) (by omega) (by omega) (by omega)
    have hw : wrap64 (((d + 1 : Nat) : Int) - 1) = (d : Int) := by rw [w64 (by omega) (by omega)]; omega
    obtain ⟨i, rfl⟩ := Int.eq_ofNat_of_zero_le hv0
    obtain ⟨j, rfl⟩ := Int.eq_ofNat_of_zero_le hu0
    by_cases e : i = j
    · obtain ⟨r, p', hr, h2, h3, h4⟩ := ih x (p + 1 + 1) hx (by omega) (by omega)
      refine ⟨r, p', ?_, by omega, by omega, h4⟩
      refine Ev.step (fun k => spec_l20Net.l0.eq_2 ..) ?_
      simp only [hw]
      simp (disch := omega) only [if_pos, if_neg, w64, rdn, rd0, tn, sc, Option.bind_some, ↓reduceIte, Bool.false_eq_true, Bool.true_eq_false]
      refine Ev.bind hv ?_
      refine Ev.bind hu ?_
      simp (disch := omega) only [if_pos, if_neg, w64, rdn, rd0, tn, sc, Option.bind_some, ↓reduceIte, Bool.false_eq_true, Bool.true_eq_false]
      exact hr
    · obtain ⟨r, p', hr, h2, h3, h4⟩ := ih ((x.set i (Go.bits .or .i64 (G x i) (shl .i64 1 (j : Int)))).set j (Go.bits .or .i64 (G (x.set i (Go.bits .or .i64 (G x i) (shl .i64 1 (j : Int)))) j) (shl .i64 1 (i : Int)))) (p + 1 + 1) (by simp [hx]) (by omega) (by omega)
      refine ⟨r, p', ?_, by omega, by omega, h4⟩
      refine Ev.step (fun k => spec_l20Net.l0.eq_2 ..) ?_
      simp only [hw]
      simp (disch := omega) only [if_pos, if_neg, w64, rdn, rd0, tn, sc, Option.bind_some, ↓reduceIte, Bool.false_eq_true, Bool.true_eq_false]
      refine Ev.bind hv ?_
      refine Ev.bind hu ?_
      simp only [List.length_set]
      simp (disch := omega) only [if_pos, if_neg, w64, rdn, rd0, tn, sc, Option.bind_some, ↓reduceIte, Bool.false_eq_true, Bool.true_eq_false]
      exact hr
theorem l20Net_ev (b : List Int) (hb : RdOk b) (n p : Int) (hn : n ≤ 1000000) (hp : 0 ≤ p) (hp2 : p ≤ 9000) :
    ∃ r p', Ev (fun k => spec_l20Net.f k b p n) (r, p') ∧ p ≤ p' ∧ p' ≤ p + 20 ∧ r.length ≤ 6 := by
  obtain ⟨v, hv, hv0, hv1, _⟩ := pick_ev b hb p 6 hp (by omega) (by omega)
  obtain ⟨m, rfl⟩ := Int.eq_ofNat_of_zero_le hv0
  have hw : wrap64 (1 + (m : Int)) = ((1 + m : Nat) : Int) := by rw [w64 (by omega) (by omega)]; omega
  obtain ⟨x, hx, hxl⟩ := PathNet_ev (1 + m) (by omega) (by omega)
  obtain ⟨u, hu, hu0, hu1, _⟩ := pick_ev b hb (p + 1) 4 (by omega) (by omega) (by omega)
  have next : ∀ y : List Int, y.length = 1 + m → ∃ r p', Ev (fun k => spec_l20Net.j0 k n ((1 + m : Nat) : Int) y b (p + 1 + 1)) (r, p') ∧ p ≤ p' ∧ p' ≤ p + 20 ∧ r.length ≤ 6 := by
    intro y hy
    obtain ⟨t, ht, ht0, ht1, _⟩ := pick_ev b hb (p + 1 + 1) 6 (by omega) (by omega) (by omega)
    obtain ⟨q, rfl⟩ := Int.eq_ofNat_of_zero_le ht0
    obtain ⟨r, p', hr, h2, h3, h4⟩ := l20Net_l0 b hb n hn (1 + m) (by omega) (by omega) q y (p + 1 + 1 + 1) hy (by omega) (by omega)
    refine ⟨r, p', ?_, by omega, by omega, h4⟩
    refine Ev.step (fun k => spec_l20Net.j0.eq_2 ..) ?_
    refine Ev.bind ht ?_
    exact hr
  by_cases e0 : u = 0
  · by_cases e3 : 3 ≤ 1 + m
    · obtain ⟨y, hy, hyl⟩ := RingNet_ev (1 + m) e3 (by omega)
      obtain ⟨r, p', hr, h⟩ := next y hyl
      refine ⟨r, p', ?_, h⟩
      unfold spec_l20Net.f
      refine Ev.bind hv ?_
      simp only [hw]
      refine Ev.bind hx ?_
      refine Ev.bind hu ?_
      simp (disch := omega) only [if_pos, if_neg, w64, rdn, rd0, tn, sc, Option.bind_some, ↓reduceIte, Bool.false_eq_true, Bool.true_eq_false]
      refine Ev.bind hy ?_
      exact hr
    · obtain ⟨r, p', hr, h⟩ := next x hxl
      refine ⟨r, p', ?_, h⟩
      unfold spec_l20Net.f
      refine Ev.bind hv ?_
      simp only [hw]
      refine Ev.bind hx ?_
      refine Ev.bind hu ?_
      simp (disch := omega) only [if_pos, if_neg, w64, rdn, rd0, tn, sc, Option.bind_some, ↓reduceIte, Bool.false_eq_true, Bool.true_eq_false]
      exact hr
  · by_cases e1 : u = 1
    · obtain ⟨r, p', hr, h⟩ := next (List.replicate (1 + m) 0) (by simp)
      refine ⟨r, p', ?_, h⟩
      unfold spec_l20Net.f
      refine Ev.bind hv ?_
      simp only [hw]
      refine Ev.bind hx ?_
      refine Ev.bind hu ?_
      simp (disch := omega) only [if_pos, if_neg, w64, rdn, rd0, tn, sc, Option.bind_some, ↓reduceIte, Bool.false_eq_true, Bool.true_eq_false]
      exact hr
    · obtain ⟨r, p', hr, h⟩ := next x hxl
      refine ⟨r, p', ?_, h⟩
      unfold spec_l20Net.f
      refine Ev.bind hv ?_
      simp only [hw]
      refine Ev.bind hx ?_
      refine Ev.bind hu ?_
      simp (disch := omega) only [if_pos, if_neg, w64, rdn, rd0, tn, sc, Option.bind_some, ↓reduceIte, Bool.false_eq_true, Bool.true_eq_false]
      exact hr

theorem DrawFewestLights_ev (l : List Int) (h : ∀ x ∈ l, (Lit.int .u8 x).wf = true) : ∃ net T, Ev (fun k => spec_DrawFewestLights.f k l) (net, T) ∧ net.length ≤ 6 ∧ -4 ≤ T ∧ T ≤ 3 := by
  obtain ⟨b, hb, hR⟩ := spec_l20Open_eq l h
  obtain ⟨net, p, h1, hp1, hp2, h2⟩ := l20Net_ev b hR 12 0 (by omega) (by omega) (by omega)
  obtain ⟨v, hv, hv0, hv1, _⟩ := pick_ev b hR p 4 (by omega) (by omega) (by omega)
  obtain ⟨w, hw, hw0, hw1, _⟩ := pick_ev b hR (p + 1) 30 (by omega) (by omega) (by omega)
  have hv2 := hv1 (by omega)
  have hw2 := hw1 (by omega)
  refine ⟨net, v - w / 29 * 4, ?_, h2, by omega, by omega⟩
  have e : wrap64 (v - wrap64 (wrap64 (Int.tdiv w 29) * 4)) = v - w / 29 * 4 := by
    rw [tdiv_nn hw0, w64 (n := w / 29) (by omega) (by omega), w64 (n := w / 29 * 4) (by omega) (by omega), w64 (by omega) (by omega)]
  unfold spec_DrawFewestLights.f
  rw [hb]
  simp only [Option.bind_some]
  refine Ev.bind h1 ?_
  refine Ev.bind hv ?_
  refine Ev.bind hw ?_
  exact Ev.val (by rw [e])

theorem DrawLightsFor_ev (l : List Int) (h : ∀ x ∈ l, (Lit.int .u8 x).wf = true) : ∃ net T, Ev (fun k => spec_DrawLightsFor.f k l) (net, T) ∧ net.length ≤ 6 ∧ -4 ≤ T ∧ T ≤ 3 := by
  obtain ⟨net, T, h1, h2⟩ := DrawFewestLights_ev l h
  refine ⟨net, T, ?_, h2⟩
  unfold spec_DrawLightsFor.f
  refine Ev.bind h1 ?_
  exact Ev.now _

-- needs Fire
theorem shl_len {net : List Int} (h : net.length ≤ 6) : shl .i64 1 (net.length : Int) = 2 ^ net.length := shl1 (by omega)
theorem impl_setOk_ev (net : List Int) (set : Int) (hn : net.length ≤ 1048576) : Ev (fun k => impl_setOk.f k net set) (decide (SetP net set)) := by
  unfold impl_setOk.f
  refine Ev.bind (impl_NetOk_ev net hn) ?_
  by_cases h1 : NetP net
  · simp only [h1, decide_true, shl_len h1.2.1]
    by_cases h2 : set ≥ 0
    · simp (disch := omega) only [if_pos, if_neg, w64, rdn, rd0, tn, sc, Option.bind_some, ↓reduceIte, Bool.false_eq_true, Bool.true_eq_false]
      refine Ev.val ?_
      rw [decide_eq_decide]
      unfold SetP
      constructor
      · intro h; exact ⟨h1, h2, h⟩
      · intro h; exact h.2.2
    · simp (disch := omega) only [if_pos, if_neg, w64, rdn, rd0, tn, sc, Option.bind_some, ↓reduceIte, Bool.false_eq_true, Bool.true_eq_false]
      have : ¬ SetP net set := fun h => h2 h.2.1
      exact Ev.val (by simp [this])
  · simp only [h1, decide_false]
    simp (disch := omega) only [if_pos, if_neg, w64, rdn, rd0, tn, sc, Option.bind_some, ↓reduceIte, Bool.false_eq_true, Bool.true_eq_false]
    have : ¬ SetP net set := fun h => h1 h.1
    exact Ev.val (by simp [this])

-- needs Fire
/-- What the next wave is. -/
def NextW (net : List Int) (S : Nat → Prop) (n i : Nat) (k : Nat) : Prop := ∃ j, j < i ∧ Dist net net.length S j n ∧ adj net j k
theorem impl_DistancesFrom_l2 (net : List Int) (hn : NetP net) (S : Nat → Prop) (w : Int) (n : Nat) (hn7 : n ≤ 7)
    (hw1 : ∀ k, k < net.length → bitOf w k → Rch net net.length S n k) (hw2 : ∀ k, k < net.length → Dist net net.length S k n → bitOf w k) (r : List Int)
    (hend : ∀ (y : List Int) (w' : Int), y.length = net.length → (∀ p, p < net.length → G y p = soFar (distOf net net.length S p) ((n + 1 : Nat) : Int)) → 0 ≤ w' → w' < 64 → (∀ k, bitOf w' k ↔ NextW net S n net.length k) →
      Ev (fun k => impl_DistancesFrom.l1 k net w' y ((n + 1 : Nat) : Int)) r) :
    ∀ (d i : Nat) (x : List Int) (x8 : Int), net.length - i = d → i ≤ net.length → x.length = net.length → (∀ p, p < net.length → G x p = soFar (distOf net net.length S p) (if p < i then ((n + 1 : Nat) : Int) else (n : Int))) →
      0 ≤ x8 → x8 < 64 → (∀ k, bitOf x8 k ↔ NextW net S n i k) →
      Ev (fun k => impl_DistancesFrom.l2 k net w x (n : Int) x8 (net.length : Int) (i : Int)) r := by
  intro d
  have h6 := hn.2.1
  induction d with
  | zero =>
    intro i x x8 hd hi hx hp h0 h64 hb
    have ei : i = net.length := by omega
    refine Ev.step (fun k => impl_DistancesFrom.l2.eq_2 ..) ?_
    have hnx := hend x x8 hx (fun p hpl => by rw [hp p hpl, if_pos (by omega)]) h0 h64 (by rw [ei] at hb; exact hb)
    clear hp hb hw1 hw2 hend
    simp (disch := omega) only [if_pos, if_neg, w64, rdn, rd0, tn, sc, Option.bind_some, ↓reduceIte, Bool.false_eq_true, Bool.true_eq_false]
    exact hnx
  | succ d ih =>
    intro i x x8 hd hi hx hp h0 h64 hb
    refine Ev.step (fun k => impl_DistancesFrom.l2.eq_2 ..) ?_
    have hil : i < net.length := by omega
    have hbit := bit_and w (j := i) (by omega)
    have hxi := hp i hil
    rw [if_neg (by omega)] at hxi
    simp only [rdn, hbit]
    clear hbit
    have hstay : distOf net net.length S i ≠ (n : Int) → ∀ p, p < net.length → G x p = soFar (distOf net net.length S p) (if p < i + 1 then ((n + 1 : Nat) : Int) else (n : Int)) := fun hne p hpl => by
      rw [hp p hpl]
      by_cases ep : p = i
      · subst ep; rw [if_neg (by omega), if_pos (by omega), soFar_step.2 hne]
      · by_cases g : p < i
        · rw [if_pos g, if_pos (by omega)]
        · rw [if_neg g, if_neg (by omega)]
    have hbstay : distOf net net.length S i ≠ (n : Int) → ∀ k, bitOf x8 k ↔ NextW net S n (i + 1) k := fun hne k => by
      rw [hb k]
      constructor
      · rintro ⟨j, hj, h1, h2⟩; exact ⟨j, by omega, h1, h2⟩
      · rintro ⟨j, hj, h1, h2⟩
        by_cases ej : j = i
        · subst ej; exact absurd (dist_iff.2 h1) hne
        · exact ⟨j, by omega, h1, h2⟩
    by_cases e1 : w / 2 ^ i % 2 = 1
    · have hr := hw1 i hil e1
      obtain ⟨e, hle, hde⟩ := dist_of_rch n hr
      have hdi := dist_iff.2 hde
      by_cases e2 : e = n
      · subst e2
        have g2 : G x i < 0 := by rw [hxi, hdi]; unfold soFar; rw [if_neg (by omega)]; omega
        have hb64 := net_lt64 hn hil
        obtain ⟨y, hy, hy0, hy64, hyb⟩ := or_two h0 h64 hb64.1 hb64.2
        have hnx := ih (i + 1) (x.set i (e : Int)) y (by omega) (by omega) (by simp [hx]) (fun p hpl => by
          by_cases ep : p = i
          · subst ep; rw [G_set_self _ (by omega), if_pos (by omega), hdi, (soFar_step (v := (e : Int)) (n := e)).1 rfl]
          · rw [G_set_ne _ ep, hp p hpl]
            by_cases g : p < i
            · rw [if_pos g, if_pos (by omega)]
            · rw [if_neg g, if_neg (by omega)]) hy0 hy64 (fun k => by
          have h1 := hyb k
          have h2 := hb k
          constructor
          · intro g
            rcases h1.1 g with g | g
            · obtain ⟨j, hj, a, b⟩ := h2.1 g; exact ⟨j, by omega, a, b⟩
            · exact ⟨i, by omega, hde, g⟩
          · rintro ⟨j, hj, a, b⟩
            by_cases ej : j = i
            · subst ej; exact h1.2 (Or.inr b)
            · exact h1.2 (Or.inl (h2.2 ⟨j, by omega, a, b⟩)))
        clear hp hb hw1 hw2 hend hstay hbstay hyb hxi
        simp only [hy]
        simp (disch := omega) only [if_pos, if_neg, w64, rdn, rd0, tn, sc, Option.bind_some, ↓reduceIte, Bool.false_eq_true, Bool.true_eq_false]
        exact hnx
      · have hne : distOf net net.length S i ≠ (n : Int) := by rw [hdi]; omega
        have g2 : ¬ G x i < 0 := by rw [hxi, hdi]; unfold soFar; rw [if_pos (by omega)]; omega
        have hnx := ih (i + 1) x x8 (by omega) (by omega) hx (hstay hne) h0 h64 (hbstay hne)
        clear hp hb hw1 hw2 hend hstay hbstay hxi
        simp (disch := omega) only [if_pos, if_neg, w64, rdn, rd0, tn, sc, Option.bind_some, ↓reduceIte, Bool.false_eq_true, Bool.true_eq_false]
        exact hnx
    · have hne : distOf net net.length S i ≠ (n : Int) := fun g => e1 (hw2 i hil (dist_iff.1 g))
      have hnx := ih (i + 1) x x8 (by omega) (by omega) hx (hstay hne) h0 h64 (hbstay hne)
      clear hp hb hw1 hw2 hend hstay hbstay hxi
      simp (disch := omega) only [if_pos, if_neg, w64, rdn, rd0, tn, sc, Option.bind_some, ↓reduceIte, Bool.false_eq_true, Bool.true_eq_false]
      exact hnx
theorem impl_DistancesFrom_l1 (net : List Int) (hn : NetP net) (S : Nat → Prop) : ∀ (d n : Nat) (w : Int) (x : List Int), net.length + 1 - n = d → n ≤ net.length + 1 → x.length = net.length →
    (∀ p, p < net.length → G x p = soFar (distOf net net.length S p) (n : Int)) → 0 ≤ w → w < 64 → (∀ k, bitOf w k → k < net.length ∧ Rch net net.length S n k) → (∀ k, k < net.length → Dist net net.length S k n → bitOf w k) →
    (n = net.length + 1 → w = 0) → Ev (fun k => impl_DistancesFrom.l1 k net w x (n : Int)) (mk net.length (distOf net net.length S)) := by
  intro d
  have h6 := hn.2.1
  have hfin : ∀ (n : Nat) (w : Int) (x : List Int), x.length = net.length → (∀ p, p < net.length → G x p = soFar (distOf net net.length S p) (n : Int)) → (∀ k, k < net.length → Dist net net.length S k n → bitOf w k) → w = 0 → x = mk net.length (distOf net net.length S) := by
    intro n w x hx hp hw2 hw
    refine mk_eq_iff.2 ⟨hx, fun p hpl => ?_⟩
    rw [hp p hpl]
    refine soFar_end hpl (fun e he => ?_)
    apply Classical.byContradiction
    intro hge
    obtain ⟨j, hj, hd⟩ := dist_way hpl he n (by omega)
    have := hw2 j hj hd
    rw [hw] at this
    unfold bitOf at this
    simp at this
  induction d with
  | zero =>
    intro n w x hd hn1 hx hp h0 h64 hw1 hw2 hz
    have ew := hz (by omega)
    refine Ev.step (fun k => impl_DistancesFrom.l1.eq_2 ..) ?_
    have := hfin n w x hx hp hw2 ew
    simp only [ew, if_true]
    exact Ev.val this
  | succ d ih =>
    intro n w x hd hn1 hx hp h0 h64 hw1 hw2 hz
    refine Ev.step (fun k => impl_DistancesFrom.l1.eq_2 ..) ?_
    by_cases ew : w = 0
    · have := hfin n w x hx hp hw2 ew
      simp only [ew, if_true]
      exact Ev.val this
    · simp only [ew, if_false, hx]
      refine impl_DistancesFrom_l2 net hn S w n (by omega) (fun k hk hb => (hw1 k hb).2) hw2 _ (fun y w' hy hq h0' h64' hb' => ?_) _ 0 x 0 rfl (by omega) hx (fun p hpl => by rw [hp p hpl, if_neg (by omega)]) (by omega) (by omega) (fun k => ?_)
      · refine ih (n + 1) w' y (by omega) (by omega) hy hq h0' h64' (fun k hb => ?_) (fun k hk hd2 => ?_) (fun e => ?_)
        · obtain ⟨j, hj, h1, h2⟩ := (hb' k).1 hb
          exact ⟨adj_lt hn hj h2, Or.inr ⟨j, hj, h1.1, h2⟩⟩
        · obtain ⟨j, hj, h1, h2⟩ := dist_pred hd2
          exact (hb' k).2 ⟨j, hj, h1, h2⟩
        · refine bit_zero h0' h64' (fun k hb => ?_)
          obtain ⟨j, hj, h1, h2⟩ := (hb' k).1 hb
          have := dist_lt hj h1
          omega
      · constructor
        · intro g; unfold bitOf at g; simp at g
        · rintro ⟨j, hj, _⟩; omega
theorem impl_DistancesFrom_l0 (net : List Int) (set : Int) (h : SetP net set) : ∀ (d i : Nat) (x : List Int), net.length - i = d → i ≤ net.length → x.length = net.length → (∀ p, p < i → G x p = -1) →
    Ev (fun k => impl_DistancesFrom.l0 k net set x (net.length : Int) (i : Int)) (distRow net set) := by
  intro d
  have h6 := h.1.2.1
  have hb := set_lt64 h
  induction d with
  | zero =>
    intro i x hd hi hx hp
    refine Ev.step (fun k => impl_DistancesFrom.l0.eq_2 ..) ?_
    have hx1 := impl_DistancesFrom_l1 net h.1 (bitOf set) _ 0 set x rfl (by omega) hx (fun p hpl => by rw [hp p (by omega)]; unfold soFar; rw [if_neg (by omega)]) hb.1 hb.2 (fun k g => ⟨bit_lt h.2.1 h.2.2 g, g⟩) (fun k _ g => dist_zero.1 g) (fun g => by omega)
    simp (disch := omega) only [if_pos, if_neg, w64, rdn, rd0, tn, sc, Option.bind_some, ↓reduceIte, Bool.false_eq_true, Bool.true_eq_false]
    exact hx1
  | succ d ih =>
    intro i x hd hi hx hp
    refine Ev.step (fun k => impl_DistancesFrom.l0.eq_2 ..) ?_
    simp (disch := omega) only [if_pos, if_neg, w64, rdn, rd0, tn, sc, Option.bind_some, ↓reduceIte, Bool.false_eq_true, Bool.true_eq_false]
    refine ih (i + 1) _ (by omega) (by omega) (by simp [hx]) (fun p hpi => ?_)
    by_cases e : p = i
    · subst e; rw [G_set_self _ (by omega)]
    · rw [G_set_ne _ e]; exact hp p (by omega)
theorem impl_DistancesFrom_ev (net : List Int) (set : Int) (hl : net.length ≤ 1048576) : Ev (fun k => impl_DistancesFrom.f k net set) (distancesFrom net set) := by
  unfold impl_DistancesFrom.f
  refine Ev.bind (impl_setOk_ev net set hl) ?_
  by_cases h : SetP net set
  · rw [distancesFrom_yes h]
    have h6 := h.1.2.1
    simp only [h, decide_true, if_true]
    simp (disch := omega) only [if_pos, if_neg, w64, rdn, rd0, tn, sc, Option.bind_some, ↓reduceIte, Bool.false_eq_true, Bool.true_eq_false]
    simp only [List.length_replicate]
    exact impl_DistancesFrom_l0 net set h _ 0 _ rfl (by omega) (by simp) (fun p g => by omega)
  · rw [distancesFrom_no h]
    simp only [h, decide_false, Bool.false_eq_true, if_false]
    exact Ev.now _

-- needs Lights
theorem popc_all : ∀ n ∈ List.range 64, bits_OnesCount.f (IntKind.u64.wrap ((n : Nat) : Int)) = some (popc ((n : Nat) : Int)) := by decide +kernel
theorem OnesCount_eq {x : Int} (h0 : 0 ≤ x) (h : x < 64) : bits_OnesCount.f (IntKind.u64.wrap x) = some (popc x) := by
  obtain ⟨n, rfl⟩ := Int.eq_ofNat_of_zero_le h0
  exact popc_all n (List.mem_range.2 (by omega))

-- needs Lights
theorem impl_LightsFor_l1 (net : List Int) (T x5 x6 x23 x24 v : Int) (row : List Int) (hrow : row.length ≤ 6)
    (hyes : (∀ i, i < row.length → 0 ≤ G row i ∧ G row i ≤ T) → Ev (fun k => impl_LightsFor.l0 k net T x6 x23 (wrap64 (x24 + 1))) v)
    (hno : ¬ (∀ i, i < row.length → 0 ≤ G row i ∧ G row i ≤ T) → Ev (fun k => impl_LightsFor.l0 k net T x5 x23 (wrap64 (x24 + 1))) v) : ∀ (d j : Nat) (b : Bool), j + d = row.length → (b = true ↔ ∀ i, i < j → 0 ≤ G row i ∧ G row i ≤ T) →
    Ev (fun k => impl_LightsFor.l1 k net T x5 x6 b x23 x24 row (row.length : Int) (j : Int)) v := by
  intro d
  induction d with
  | zero =>
    intro j b hd hb
    obtain rfl : j = row.length := by omega
    refine Ev.step (fun k => impl_LightsFor.l1.eq_2 ..) ?_
    have e0 : ¬ ((row.length : Int) < (row.length : Int)) := by omega
    simp only [e0, if_false]
    cases b with
    | true =>
      simp only [if_true]
      exact hyes (hb.1 rfl)
    | false =>
      simp only [Bool.false_eq_true, if_false]
      exact hno (fun g => by have := hb.2 g; cases this)
  | succ d ih =>
    intro j b hd hb
    refine Ev.step (fun k => impl_LightsFor.l1.eq_2 ..) ?_
    have hstep : (∀ i, i < j + 1 → 0 ≤ G row i ∧ G row i ≤ T) ↔ ((∀ i, i < j → 0 ≤ G row i ∧ G row i ≤ T) ∧ 0 ≤ G row j ∧ G row j ≤ T) := by
      constructor
      · intro g; exact ⟨fun i hi => g i (by omega), g j (by omega)⟩
      · rintro ⟨g1, g2⟩ i hi
        by_cases e : i = j
        · subst e; exact g2
        · exact g1 i (by omega)
    have c1 : (j : Int) < (row.length : Int) := by omega
    have c2 : 0 ≤ (j : Int) := by omega
    have hw : wrap64 ((j : Int) + 1) = ((j + 1 : Nat) : Int) := by rw [w64 (by omega) (by omega)]; omega
    simp only [c1, c2, if_true, hw, rdn]
    cases b with
    | true =>
      simp only [if_true]
      have hb1 := hb.1 rfl
      by_cases g : G row j ≥ 0
      · simp only [g, if_true]
        refine ih (j + 1) _ (by omega) ?_
        rw [hstep]
        exact ⟨fun h => ⟨hb1, g, of_decide_eq_true h⟩, fun h => decide_eq_true h.2.2⟩
      · simp only [g, if_false]
        refine ih (j + 1) _ (by omega) ?_
        rw [hstep]
        exact ⟨fun h => (by cases h), fun h => (g h.2.1).elim⟩
    | false =>
      simp only [Bool.false_eq_true, if_false]
      refine ih (j + 1) _ (by omega) ?_
      rw [hstep]
      exact ⟨fun h => (by cases h), fun h => (by have := hb.2 h.1; cases this)⟩
theorem impl_LightsFor_l0 (net : List Int) (T : Int) (hn : NetP net) (hT : 0 ≤ T) (N : Nat) (hN : N = 2 ^ net.length) (h64 : N ≤ 64) : ∀ (d q : Nat), q + d = N →
    Ev (fun k => impl_LightsFor.l0 k net T (lightsTo net T q) (N : Int) (q : Int)) (lights net T) := by
  intro d
  have h6 := hn.2.1
  induction d with
  | zero =>
    intro q hd
    obtain rfl : q = N := by omega
    refine Ev.step (fun k => impl_LightsFor.l0.eq_2 ..) ?_
    have e0 : ¬ ((q : Int) < (q : Int)) := by omega
    simp only [e0, if_false]
    exact Ev.val (by unfold lights; rw [hN])
  | succ d ih =>
    intro q hd
    have hI := lightsTo_inv (T := T) h6 hT q (by omega)
    have hb64 : lightsTo net T q < 64 := by have := hI.lt; rw [two_pow_cast, ← hN] at this; omega
    have hb0 := hI.nn
    refine Ev.step (fun k => impl_LightsFor.l0.eq_2 ..) ?_
    have c1 : (q : Int) < (N : Int) := by omega
    have hw : wrap64 ((q : Int) + 1) = ((q + 1 : Nat) : Int) := by rw [w64 (by omega) (by omega)]; omega
    have hn1 := ih (q + 1) (by omega)
    simp only [c1, if_true, OnesCount_eq (x := (q : Int)) (by omega) (by omega), OnesCount_eq hb0 hb64, Option.bind_some]
    by_cases hp : popc (q : Int) ≥ popc (lightsTo net T q)
    · simp only [hp, if_true, hw]
      rw [lightsTo_same (fun g => by omega)] at hn1
      exact hn1
    · simp only [hp, if_false]
      have hS : SetP net (q : Int) := ⟨hn, by omega, by rw [two_pow_cast, ← hN]; omega⟩
      refine Ev.bind (impl_DistancesFrom_ev net (q : Int) (by omega)) ?_
      rw [distancesFrom_yes hS]
      have hl := distRow_length net (q : Int)
      refine impl_LightsFor_l1 net T _ _ _ _ _ (distRow net (q : Int)) (by omega) (fun g => ?_) (fun g => ?_) (distRow net (q : Int)).length 0 true (by omega) ⟨fun _ i hi => by omega, fun _ => rfl⟩
      · rw [hw]
        rw [lightsTo_new ⟨by omega, fun i hi => g i (by omega)⟩] at hn1
        exact hn1
      · rw [hw]
        rw [lightsTo_same (fun a => g (fun i hi => a.2 i (by omega)))] at hn1
        exact hn1
theorem impl_LightsFor_ev (net : List Int) (T : Int) (hl : net.length ≤ 1048576) : Ev (fun k => impl_LightsFor.f k net T) (lightsFor net T) := by
  unfold impl_LightsFor.f
  refine Ev.bind (impl_NetOk_ev net hl) ?_
  by_cases hn : NetP net
  · have h6 := hn.2.1
    simp only [hn, decide_true, if_true]
    by_cases hT : T < 0
    · simp only [hT, decide_true]
      refine Ev.step (fun k => impl_LightsFor.j0.eq_2 ..) ?_
      simp only [if_true]
      exact Ev.val (by unfold lightsFor; rw [if_neg (fun g => by omega)])
    · simp only [hT, decide_false]
      refine Ev.step (fun k => impl_LightsFor.j0.eq_2 ..) ?_
      have h64 : 2 ^ net.length ≤ 2 ^ 6 := Nat.pow_le_pow_right (by decide) h6
      have hpos : 0 < 2 ^ net.length := Nat.pow_pos (by decide)
      have hw : wrap64 ((2 : Int) ^ net.length - 1) = 2 ^ net.length - 1 := by rw [two_pow_cast]; exact w64 (by omega) (by omega)
      simp only [Bool.false_eq_true, if_false, shl1 (show net.length ≤ 62 by omega), hw]
      have g := impl_LightsFor_l0 net T hn (by omega) (2 ^ net.length) rfl (by omega) (2 ^ net.length) 0 (by omega)
      rw [← two_pow_cast] at g
      have e : lightsFor net T = lights net T := if_pos ⟨hn, by omega⟩
      rw [e]
      exact g
  · simp only [hn, decide_false, Bool.false_eq_true, if_false]
    refine Ev.step (fun k => impl_LightsFor.j0.eq_2 ..) ?_
    simp only [if_true]
    exact Ev.val (by unfold lightsFor; rw [if_neg (fun g => hn g.1)])
theorem lights_lt64 {net : List Int} {T : Int} (hn : NetP net) (hT : 0 ≤ T) : lights net T < 64 := by
  have h1 := (lights_inv hn.2.1 hT).lt
  have h64 : 2 ^ net.length ≤ 2 ^ 6 := Nat.pow_le_pow_right (by decide) hn.2.1
  rw [two_pow_cast] at h1
  omega
theorem lightsFor_yes {net : List Int} {T : Int} (hn : NetP net) (hT : 0 ≤ T) : lightsFor net T = lights net T := if_pos ⟨hn, hT⟩
theorem lightsFor_no {net : List Int} {T : Int} (h : ¬ (NetP net ∧ 0 ≤ T)) : lightsFor net T = -1 := if_neg h
theorem fewestLights_yes {net : List Int} {T : Int} (hn : NetP net) (hT : 0 ≤ T) : fewestLights net T = popc (lights net T) := if_pos ⟨hn, hT⟩
theorem fewestLights_no {net : List Int} {T : Int} (h : ¬ (NetP net ∧ 0 ≤ T)) : fewestLights net T = -1 := if_neg h

theorem spec_NetOk_l2 (l : List Int) (h6 : l.length ≤ 6) (hr : ∀ j, j < l.length → 0 ≤ G l j ∧ G l j < 2 ^ l.length) (i : Nat) (hi : i < l.length) (r : Bool)
    (hbad : ∀ k, k < l.length → ¬ ((adj l i k ↔ adj l k i) ∧ ¬ (k = i ∧ adj l i i)) → r = false)
    (hgood : (∀ k, k < l.length → (adj l i k ↔ adj l k i)) → ¬ adj l i i → Ev (fun k => spec_NetOk.l1 k l ((i + 1 : Nat) : Int)) r) :
    ∀ (d : Nat) (j : Nat), l.length - j = d → j ≤ l.length → (∀ k, k < j → (adj l i k ↔ adj l k i) ∧ ¬ (k = i ∧ adj l i i)) →
      Ev (fun k => spec_NetOk.l2 k l (i : Int) (j : Int)) r := by
  intro d
  induction d with
  | zero =>
    intro j hd hj hk
    refine Ev.step (fun k => spec_NetOk.l2.eq_2 ..) ?_
    simp (disch := omega) only [if_pos, if_neg, w64, rdn, rd0, tn, sc, Option.bind_some, ↓reduceIte, Bool.false_eq_true, Bool.true_eq_false]
    exact hgood (fun k hkl => (hk k (by omega)).1) (fun h => (hk i (by omega)).2 ⟨rfl, h⟩)
  | succ d ih =>
    intro j hd hj hk
    refine Ev.step (fun k => spec_NetOk.l2.eq_2 ..) ?_
    have b1 := bit_mod (G l i) (j := j) (by omega) (hr i hi).1
    have b2 := bit_mod (G l j) (j := i) (by omega) (hr j (by omega)).1
    have m1 := Int.emod_two_eq (G l i / 2 ^ j)
    have m2 := Int.emod_two_eq (G l j / 2 ^ i)
    by_cases e : adj l i j ↔ adj l j i
    · have e' : G l i / 2 ^ j % 2 = G l j / 2 ^ i % 2 := by
        unfold adj at e
        by_cases c : G l i / 2 ^ j % 2 = 1
        · rw [c, e.1 c]
        · have c2 := fun h => c (e.2 h)
          omega
      simp only [rdn, b1, b2]
      by_cases eji : j = i
      · by_cases ea : G l i / 2 ^ j % 2 = 1
        · simp (disch := omega) only [if_pos, if_neg, w64, rdn, rd0, tn, sc, Option.bind_some, ↓reduceIte, Bool.false_eq_true, Bool.true_eq_false]
          refine Ev.val (hbad j (by omega) (fun h => h.2 ⟨eji, ?_⟩)).symm
          rw [eji] at ea; exact ea
        · simp (disch := omega) only [if_pos, if_neg, w64, rdn, rd0, tn, sc, Option.bind_some, ↓reduceIte, Bool.false_eq_true, Bool.true_eq_false]
          refine ih _ (by omega) (by omega) ?_
          intro k hkj
          by_cases e'' : k = j
          · subst e''; refine ⟨e, fun h => ea ?_⟩; have := h.2; rw [eji]; exact this
          · exact hk k (by omega)
      · simp (disch := omega) only [if_pos, if_neg, w64, rdn, rd0, tn, sc, Option.bind_some, ↓reduceIte, Bool.false_eq_true, Bool.true_eq_false]
        refine ih _ (by omega) (by omega) ?_
        intro k hkj
        by_cases e'' : k = j
        · subst e''; exact ⟨e, fun h => eji h.1⟩
        · exact hk k (by omega)
    · have e' : ¬ G l i / 2 ^ j % 2 = G l j / 2 ^ i % 2 := by
        intro h
        apply e
        unfold adj
        rw [h]
      simp only [rdn, b1, b2]
      simp (disch := omega) only [if_pos, if_neg, w64, rdn, rd0, tn, sc, Option.bind_some, ↓reduceIte, Bool.false_eq_true, Bool.true_eq_false]
      exact Ev.val (hbad j (by omega) (fun h => e h.1)).symm
theorem spec_NetOk_l1 (l : List Int) (h1 : 1 ≤ l.length) (h6 : l.length ≤ 6) (hr : ∀ j, j < l.length → 0 ≤ G l j ∧ G l j < 2 ^ l.length) : ∀ (d : Nat) (i : Nat), l.length - i = d → i ≤ l.length →
    (∀ j, j < i → (¬ adj l j j ∧ ∀ k, k < l.length → (adj l j k ↔ adj l k j))) → Ev (fun k => spec_NetOk.l1 k l (i : Int)) (decide (NetP l)) := by
  intro d
  induction d with
  | zero =>
    intro i hd hi hj
    refine Ev.step (fun k => spec_NetOk.l1.eq_2 ..) ?_
    simp (disch := omega) only [if_pos, if_neg, w64, rdn, rd0, tn, sc, Option.bind_some, ↓reduceIte, Bool.false_eq_true, Bool.true_eq_false]
    have : NetP l := ⟨h1, h6, fun j h => ⟨(hr j h).1, (hr j h).2, (hj j (by omega)).1, (hj j (by omega)).2⟩⟩
    exact Ev.val (by simp [this])
  | succ d ih =>
    intro i hd hi hj
    refine Ev.step (fun k => spec_NetOk.l1.eq_2 ..) ?_
    simp (disch := omega) only [if_pos, if_neg, w64, rdn, rd0, tn, sc, Option.bind_some, ↓reduceIte, Bool.false_eq_true, Bool.true_eq_false]
    refine spec_NetOk_l2 l h6 hr i (by omega) _ ?_ ?_ _ 0 rfl (by omega) (fun k h => by omega)
    · intro k hk hn
      have : ¬ NetP l := fun p => hn ⟨(p.2.2 i (by omega)).2.2.2 k hk, fun h => (p.2.2 i (by omega)).2.2.1 h.2⟩
      simp [this]
    · intro hall hirr
      refine ih _ (by omega) (by omega) ?_
      intro j hji
      by_cases e' : j = i
      · subst e'; exact ⟨hirr, hall⟩
      · exact hj j (by omega)
theorem spec_NetOk_l0 (l : List Int) (h1 : 1 ≤ l.length) (h6 : l.length ≤ 6) : ∀ (d : Nat) (i : Nat), l.length - i = d → i ≤ l.length →
    (∀ j, j < i → 0 ≤ G l j ∧ G l j < 2 ^ l.length) → Ev (fun k => spec_NetOk.l0 k l (i : Int)) (decide (NetP l)) := by
  intro d
  induction d with
  | zero =>
    intro i hd hi hj
    refine Ev.step (fun k => spec_NetOk.l0.eq_2 ..) ?_
    simp (disch := omega) only [if_pos, if_neg, w64, rdn, rd0, tn, sc, Option.bind_some, ↓reduceIte, Bool.false_eq_true, Bool.true_eq_false]
    exact spec_NetOk_l1 l h1 h6 (fun j h => hj j (by omega)) _ 0 rfl (by omega) (fun j h => by omega)
  | succ d ih =>
    intro i hd hi hj
    refine Ev.step (fun k => spec_NetOk.l0.eq_2 ..) ?_
    have hs := shl1 (n := l.length) (by omega)
    have hp := pow_lt63 (n := l.length) (by omega)
    have hq := pow_pos2 l.length
    have hw : wrap64 ((2 : Int) ^ l.length - 1) = 2 ^ l.length - 1 := w64 (by omega) (by omega)
    simp only [rdn, hs, hw, spec_l1In_eq, Option.bind_some]
    by_cases e : 0 ≤ G l i ∧ G l i ≤ 2 ^ l.length - 1
    · simp only [e, and_self, decide_true]
      simp (disch := omega) only [if_pos, if_neg, w64, rdn, rd0, tn, sc, Option.bind_some, ↓reduceIte, Bool.false_eq_true, Bool.true_eq_false]
      refine ih _ (by omega) (by omega) ?_
      intro j hji
      by_cases e' : j = i
      · subst e'; omega
      · exact hj j (by omega)
    · simp only [e, decide_false]
      simp (disch := omega) only [if_pos, if_neg, w64, rdn, rd0, tn, sc, Option.bind_some, ↓reduceIte, Bool.false_eq_true, Bool.true_eq_false]
      have : ¬ NetP l := fun p => e ⟨(p.2.2 i (by omega)).1, by have := (p.2.2 i (by omega)).2.1; omega⟩
      exact Ev.val (by simp [this])
theorem spec_NetOk_ev (l : List Int) (hl : l.length ≤ 1048576) : Ev (fun k => spec_NetOk.f k l) (decide (NetP l)) := by
  unfold spec_NetOk.f
  simp only [spec_l1In_eq, Option.bind_some]
  by_cases h : 1 ≤ l.length ∧ l.length ≤ 6
  · have h' : (1 : Int) ≤ (l.length : Int) ∧ (l.length : Int) ≤ 6 := by omega
    simp only [h', and_self, decide_true]
    simp (disch := omega) only [if_pos, if_neg, w64, rdn, rd0, tn, sc, Option.bind_some, ↓reduceIte, Bool.false_eq_true, Bool.true_eq_false]
    exact spec_NetOk_l0 l h.1 h.2 _ 0 rfl (by omega) (fun j h => by omega)
  · have h' : ¬ ((1 : Int) ≤ (l.length : Int) ∧ (l.length : Int) ≤ 6) := by omega
    simp only [h', decide_false]
    simp (disch := omega) only [if_pos, if_neg, w64, rdn, rd0, tn, sc, Option.bind_some, ↓reduceIte, Bool.false_eq_true, Bool.true_eq_false]
    have : ¬ NetP l := fun p => h ⟨p.1, p.2.1⟩
    exact Ev.val (by simp [this])

-- needs Fire
theorem spec_l1Near_l0 (net : List Int) (hn : NetP net) (w : Int) (hw : 0 ≤ w) : ∀ (d i : Nat) (x : Int), net.length - i = d → i ≤ net.length → 0 ≤ x → x < 64 → (∀ k, bitOf x k ↔ ∃ j, j < i ∧ bitOf w j ∧ adj net j k) →
    ∃ y, Ev (fun k => spec_l1Near.l0 k net w x (i : Int)) y ∧ 0 ≤ y ∧ y < 64 ∧ ∀ k, bitOf y k ↔ ∃ j, j < net.length ∧ bitOf w j ∧ adj net j k := by
  intro d
  have h6 := hn.2.1
  induction d with
  | zero =>
    intro i x hd hi h0 h64 hb
    have ei : i = net.length := by omega
    refine ⟨x, ?_, h0, h64, by rw [ei] at hb; exact hb⟩
    refine Ev.step (fun k => spec_l1Near.l0.eq_2 ..) ?_
    clear hb
    simp (disch := omega) only [if_pos, if_neg, w64, rdn, rd0, tn, sc, Option.bind_some, ↓reduceIte, Bool.false_eq_true, Bool.true_eq_false]
    exact Ev.now _
  | succ d ih =>
    intro i x hd hi h0 h64 hb
    have hbit := bit_mod w (j := i) (by omega) hw
    by_cases e1 : w / 2 ^ i % 2 = 1
    · have hb64 := net_lt64 hn (show i < net.length by omega)
      obtain ⟨z, hz, hz0, hz64, hzb⟩ := or_two h0 h64 hb64.1 hb64.2
      obtain ⟨y, hy, h1, h2, h3⟩ := ih (i + 1) z (by omega) (by omega) hz0 hz64 (fun k => by
        have g1 := hzb k
        have g2 := hb k
        constructor
        · intro g
          rcases g1.1 g with g | g
          · obtain ⟨j, hj, a, b⟩ := g2.1 g; exact ⟨j, by omega, a, b⟩
          · exact ⟨i, by omega, e1, g⟩
        · rintro ⟨j, hj, a, b⟩
          by_cases ej : j = i
          · subst ej; exact g1.2 (Or.inr b)
          · exact g1.2 (Or.inl (g2.2 ⟨j, by omega, a, b⟩)))
      refine ⟨y, ?_, h1, h2, h3⟩
      refine Ev.step (fun k => spec_l1Near.l0.eq_2 ..) ?_
      clear hb hzb h3
      simp only [rdn, hbit, hz]
      clear hbit
      simp (disch := omega) only [if_pos, if_neg, w64, rdn, rd0, tn, sc, Option.bind_some, ↓reduceIte, Bool.false_eq_true, Bool.true_eq_false]
      exact hy
    · obtain ⟨y, hy, h1, h2, h3⟩ := ih (i + 1) x (by omega) (by omega) h0 h64 (fun k => by
        rw [hb k]
        constructor
        · rintro ⟨j, hj, a, b⟩; exact ⟨j, by omega, a, b⟩
        · rintro ⟨j, hj, a, b⟩
          by_cases ej : j = i
          · subst ej; exact absurd a e1
          · exact ⟨j, by omega, a, b⟩)
      refine ⟨y, ?_, h1, h2, h3⟩
      refine Ev.step (fun k => spec_l1Near.l0.eq_2 ..) ?_
      clear hb h3
      simp only [rdn, hbit]
      clear hbit
      simp (disch := omega) only [if_pos, if_neg, w64, rdn, rd0, tn, sc, Option.bind_some, ↓reduceIte, Bool.false_eq_true, Bool.true_eq_false]
      exact hy
theorem spec_l1Near_ev (net : List Int) (hn : NetP net) (w : Int) (hw : 0 ≤ w) : ∃ y, Ev (fun k => spec_l1Near.f k net w) y ∧ 0 ≤ y ∧ y < 64 ∧ ∀ k, bitOf y k ↔ ∃ j, j < net.length ∧ bitOf w j ∧ adj net j k := by
  unfold spec_l1Near.f
  exact spec_l1Near_l0 net hn w hw _ 0 0 rfl (by omega) (by omega) (by omega) (fun k => ⟨fun g => by unfold bitOf at g; simp at g, fun ⟨j, hj, _⟩ => by omega⟩)

-- needs Fire
theorem spec_l1Far_l2 (net : List Int) (hn : NetP net) (S : Nat → Prop) (w seen : Int) (n : Nat) (hn7 : n ≤ 7) (hw0 : 0 ≤ w) (hw : ∀ k, k < net.length → (bitOf w k ↔ Dist net net.length S k n)) (r : List Int)
    (hend : ∀ (y : List Int), y.length = net.length → (∀ p, p < net.length → G y p = soFar (distOf net net.length S p) ((n + 1 : Nat) : Int)) →
      Ev (fun k => (spec_l1Near.f k net w).bind fun t => (spec_l1Far.l1 k net y (Go.bits .or .i64 seen w) (Go.bits .andNot .i64 t (Go.bits .or .i64 seen w)) ((n + 1 : Nat) : Int))) r) :
    ∀ (d i : Nat) (x : List Int), net.length - i = d → i ≤ net.length → x.length = net.length → (∀ p, p < net.length → G x p = soFar (distOf net net.length S p) (if p < i then ((n + 1 : Nat) : Int) else (n : Int))) →
      Ev (fun k => spec_l1Far.l2 k net x seen w (n : Int) (i : Int)) r := by
  intro d
  have h6 := hn.2.1
  induction d with
  | zero =>
    intro i x hd hi hx hp
    have hnx := hend x hx (fun p hpl => by rw [hp p hpl, if_pos (by omega)])
    refine Ev.step (fun k => spec_l1Far.l2.eq_2 ..) ?_
    clear hp hw hend
    simp (disch := omega) only [if_pos, if_neg, w64, rdn, rd0, tn, sc, Option.bind_some, ↓reduceIte, Bool.false_eq_true, Bool.true_eq_false]
    exact hnx
  | succ d ih =>
    intro i x hd hi hx hp
    have hil : i < net.length := by omega
    refine Ev.step (fun k => spec_l1Far.l2.eq_2 ..) ?_
    have hbit := bit_mod w (j := i) (by omega) hw0
    simp only [rdn, hbit]
    clear hbit
    by_cases e1 : w / 2 ^ i % 2 = 1
    · have hdi := dist_iff.2 ((hw i hil).1 e1)
      have hnx := ih (i + 1) (x.set i (n : Int)) (by omega) (by omega) (by simp [hx]) (fun p hpl => by
        by_cases ep : p = i
        · subst ep; rw [G_set_self _ (by omega), if_pos (by omega), hdi, (soFar_step (v := (n : Int)) (n := n)).1 rfl]
        · rw [G_set_ne _ ep, hp p hpl]
          by_cases g : p < i
          · rw [if_pos g, if_pos (by omega)]
          · rw [if_neg g, if_neg (by omega)])
      clear hp hw hend hdi
      simp (disch := omega) only [if_pos, if_neg, w64, rdn, rd0, tn, sc, Option.bind_some, ↓reduceIte, Bool.false_eq_true, Bool.true_eq_false]
      exact hnx
    · have hne : distOf net net.length S i ≠ (n : Int) := fun g => e1 ((hw i hil).2 (dist_iff.1 g))
      have hnx := ih (i + 1) x (by omega) (by omega) hx (fun p hpl => by
        rw [hp p hpl]
        by_cases ep : p = i
        · subst ep; rw [if_neg (by omega), if_pos (by omega), soFar_step.2 hne]
        · by_cases g : p < i
          · rw [if_pos g, if_pos (by omega)]
          · rw [if_neg g, if_neg (by omega)])
      clear hp hw hend hne
      simp (disch := omega) only [if_pos, if_neg, w64, rdn, rd0, tn, sc, Option.bind_some, ↓reduceIte, Bool.false_eq_true, Bool.true_eq_false]
      exact hnx
theorem spec_l1Far_l1 (net : List Int) (hn : NetP net) (S : Nat → Prop) : ∀ (d n : Nat) (w seen : Int) (x : List Int), net.length + 1 - n = d → n ≤ net.length + 1 → x.length = net.length →
    (∀ p, p < net.length → G x p = soFar (distOf net net.length S p) (n : Int)) → 0 ≤ w → w < 64 → (∀ k, bitOf w k ↔ (k < net.length ∧ Dist net net.length S k n)) → 0 ≤ seen → seen < 64 → (∀ k, bitOf seen k ↔ (k < net.length ∧ ∃ e, e < n ∧ Dist net net.length S k e)) →
    Ev (fun k => spec_l1Far.l1 k net x seen w (n : Int)) (mk net.length (distOf net net.length S)) := by
  intro d
  have h6 := hn.2.1
  have hfin : ∀ (n : Nat) (w : Int) (x : List Int), x.length = net.length → (∀ p, p < net.length → G x p = soFar (distOf net net.length S p) (n : Int)) → (∀ k, bitOf w k ↔ (k < net.length ∧ Dist net net.length S k n)) → w = 0 → x = mk net.length (distOf net net.length S) := by
    intro n w x hx hp hw ew
    refine mk_eq_iff.2 ⟨hx, fun p hpl => ?_⟩
    rw [hp p hpl]
    refine soFar_end hpl (fun e he => ?_)
    apply Classical.byContradiction
    intro hge
    obtain ⟨j, hj, hd⟩ := dist_way hpl he n (by omega)
    have := (hw j).2 ⟨hj, hd⟩
    rw [ew] at this
    unfold bitOf at this
    simp at this
  induction d with
  | zero =>
    intro n w seen x hd hn1 hx hp h0 h64 hw hs0 hs64 hs
    have ew : w = 0 := bit_zero h0 h64 (fun k hb => by
      obtain ⟨h1, h2⟩ := (hw k).1 hb
      have := dist_lt h1 h2
      omega)
    refine Ev.step (fun k => spec_l1Far.l1.eq_2 ..) ?_
    have := hfin n w x hx hp hw ew
    simp only [ew, if_true]
    exact Ev.val this
  | succ d ih =>
    intro n w seen x hd hn1 hx hp h0 h64 hw hs0 hs64 hs
    refine Ev.step (fun k => spec_l1Far.l1.eq_2 ..) ?_
    by_cases ew : w = 0
    · have := hfin n w x hx hp hw ew
      simp only [ew, if_true]
      exact Ev.val this
    · simp only [ew, if_false]
      obtain ⟨t, ht, ht0, ht64, htb⟩ := spec_l1Near_ev net hn w h0
      obtain ⟨s2, hs2, hs20, hs264, hs2b⟩ := or_two hs0 hs64 h0 h64
      obtain ⟨w2, hw2, hw20, hw264, hw2b⟩ := andNot_two ht0 ht64 hs20 hs264
      have hseen : ∀ k, bitOf s2 k ↔ (k < net.length ∧ ∃ e, e < n + 1 ∧ Dist net net.length S k e) := fun k => by
        have g1 := hs2b k
        have g2 := hs k
        have g3 := hw k
        constructor
        · intro g
          rcases g1.1 g with g | g
          · obtain ⟨a, e, b, c⟩ := g2.1 g; exact ⟨a, e, by omega, c⟩
          · obtain ⟨a, b⟩ := g3.1 g; exact ⟨a, n, by omega, b⟩
        · rintro ⟨a, e, b, c⟩
          by_cases en : e = n
          · subst en; exact g1.2 (Or.inr (g3.2 ⟨a, c⟩))
          · exact g1.2 (Or.inl (g2.2 ⟨a, e, by omega, c⟩))
      refine spec_l1Far_l2 net hn S w seen n (by omega) h0 (fun k hk => ⟨fun g => ((hw k).1 g).2, fun g => (hw k).2 ⟨hk, g⟩⟩) _ (fun y hy hq => ?_) _ 0 x rfl (by omega) hx (fun p hpl => by rw [hp p hpl, if_neg (by omega)])
      refine Ev.bind ht ?_
      simp only [hs2, hw2]
      refine ih (n + 1) w2 s2 y (by omega) (by omega) hy hq hw20 hw264 (fun k => ?_) hs20 hs264 hseen
      have g1 := hw2b k
      have g2 := htb k
      constructor
      · intro g
        obtain ⟨a, b⟩ := g1.1 g
        obtain ⟨j, hj, c, e⟩ := g2.1 a
        have hjd := ((hw j).1 c).2
        have hkl := adj_lt hn hj e
        refine ⟨hkl, ?_⟩
        obtain ⟨m, hm, hdm⟩ := dist_next hj hjd e
        by_cases em : m = n + 1
        · rw [← em]; exact hdm
        · exact absurd ((hseen k).2 ⟨hkl, m, by omega, hdm⟩) b
      · rintro ⟨hkl, hdk⟩
        obtain ⟨j, hj, c, e⟩ := dist_pred hdk
        refine g1.2 ⟨g2.2 ⟨j, hj, (hw j).2 ⟨hj, c⟩, e⟩, fun b => ?_⟩
        obtain ⟨_, m, hm, hdm⟩ := (hseen k).1 b
        have := dist_unique hdk hdm
        omega
theorem spec_l1Far_l0 (net : List Int) (set : Int) (h : SetP net set) : ∀ (d i : Nat), net.length - i = d → i ≤ net.length →
    Ev (fun k => spec_l1Far.l0 k net set (mk i (fun _ => -1)) (i : Int)) (distRow net set) := by
  intro d
  have h6 := h.1.2.1
  have hb := set_lt64 h
  induction d with
  | zero =>
    intro i hd hi
    have ei : i = net.length := by omega
    subst ei
    refine Ev.step (fun k => spec_l1Far.l0.eq_2 ..) ?_
    have hx := spec_l1Far_l1 net h.1 (bitOf set) _ 0 set 0 (mk net.length (fun _ => -1)) rfl (by omega) (mk_length _ _) (fun p hpl => by rw [G_mk _ hpl]; unfold soFar; rw [if_neg (by omega)]) hb.1 hb.2
      (fun k => ⟨fun g => ⟨bit_lt h.2.1 h.2.2 g, dist_zero.2 g⟩, fun g => dist_zero.1 g.2⟩) (by omega) (by omega) (fun k => ⟨fun g => by unfold bitOf at g; simp at g, fun ⟨_, e, he, _⟩ => by omega⟩)
    simp (disch := omega) only [if_pos, if_neg, w64, rdn, rd0, tn, sc, Option.bind_some, ↓reduceIte, Bool.false_eq_true, Bool.true_eq_false]
    exact hx
  | succ d ih =>
    intro i hd hi
    refine Ev.step (fun k => spec_l1Far.l0.eq_2 ..) ?_
    have hn := ih (i + 1) (by omega) (by omega)
    rw [mk_succ] at hn
    have hL : (mk i (fun _ => (-1 : Int))).length = i := mk_length _ _
    simp (disch := omega) only [if_pos, if_neg, w64, rdn, rd0, tn, sc, Option.bind_some, ↓reduceIte, Bool.false_eq_true, Bool.true_eq_false]
    exact hn
theorem spec_l1Far_ev (net : List Int) (set : Int) (h : SetP net set) : Ev (fun k => spec_l1Far.f k net set) (distRow net set) := by
  unfold spec_l1Far.f
  exact spec_l1Far_l0 net set h _ 0 rfl (by omega)

-- needs Lights
theorem spec_l4Covers_l0 (T : Int) (row : List Int) (h6 : row.length ≤ 6) : ∀ (d j : Nat) (b : Bool), j + d = row.length → (b = true ↔ ∀ i, j ≤ i → i < row.length → 0 ≤ G row i ∧ G row i ≤ T) →
    Ev (fun k => spec_l4Covers.l0 k T row (j : Int)) b := by
  intro d
  induction d with
  | zero =>
    intro j b hd hb
    refine Ev.step (fun k => spec_l4Covers.l0.eq_2 ..) ?_
    have e0 : ¬ ((j : Int) < (row.length : Int)) := by omega
    simp only [e0, if_false]
    exact Ev.val (hb.2 (fun i hi hi2 => by omega)).symm
  | succ d ih =>
    intro j b hd hb
    refine Ev.step (fun k => spec_l4Covers.l0.eq_2 ..) ?_
    have c1 : (j : Int) < (row.length : Int) := by omega
    have c2 : 0 ≤ (j : Int) := by omega
    have hw : wrap64 ((j : Int) + 1) = ((j + 1 : Nat) : Int) := by rw [w64 (by omega) (by omega)]; omega
    simp only [c1, c2, if_true, hw, rdn]
    have hf : ¬ (0 ≤ G row j ∧ G row j ≤ T) → b = false := fun g => by
      cases b with
      | true => exact (g (hb.1 rfl j (Nat.le_refl _) (by omega))).elim
      | false => rfl
    by_cases g1 : G row j < 0
    · simp only [g1, if_true]
      exact Ev.val (hf (fun g => by omega)).symm
    · by_cases g2 : G row j > T
      · simp only [g1, g2, if_true, if_false]
        exact Ev.val (hf (fun g => by omega)).symm
      · simp only [g1, g2, if_false]
        refine ih (j + 1) b (by omega) ?_
        rw [hb]
        constructor
        · intro g i hi hi2; exact g i (by omega) hi2
        · intro g i hi hi2
          by_cases e : i = j
          · subst e; exact ⟨by omega, by omega⟩
          · exact g i (by omega) hi2
open Classical in
theorem spec_l4Covers_ev (net : List Int) (x T : Int) (h : SetP net x) : Ev (fun k => spec_l4Covers.f k net x T) (decide (Cov net T x)) := by
  unfold spec_l4Covers.f
  refine Ev.bind (spec_l1Far_ev net x h) ?_
  have hl := distRow_length net x
  have h6 := h.1.2.1
  refine spec_l4Covers_l0 T (distRow net x) (by omega) _ 0 _ (Nat.zero_add _) ?_
  rw [decide_eq_true_eq]
  unfold Cov
  constructor
  · intro g i _ hi; exact g i (by omega)
  · intro g i hi; exact g i (Nat.zero_le _) (by omega)

-- needs Lights
def sizeN : Nat → Int → Int
  | 0, _ => 0
  | d + 1, x => x % 2 + sizeN d (x / 2)
theorem sizeN_zero : ∀ d, sizeN d 0 = 0
  | 0 => rfl
  | d + 1 => by show (0 : Int) % 2 + sizeN d (0 / 2) = 0; rw [show (0 : Int) / 2 = 0 by decide, sizeN_zero d]; rfl
theorem sizeN_all : ∀ n ∈ List.range 64, sizeN 6 ((n : Nat) : Int) = popc ((n : Nat) : Int) := by decide +kernel
theorem spec_l4Size_l0 : ∀ (d : Nat) (x acc : Int), d ≤ 6 → 0 ≤ x → x < ((2 ^ d : Nat) : Int) → 0 ≤ acc → acc + d ≤ 100 → Ev (fun k => spec_l4Size.l0 k x acc) (acc + sizeN d x) := by
  intro d
  induction d with
  | zero =>
    intro x acc hd6 h0 hx ha hb
    refine Ev.step (fun k => spec_l4Size.l0.eq_2 ..) ?_
    have e0 : ¬ x > 0 := by have e1 : (2 : Nat) ^ 0 = 1 := rfl; omega
    simp only [e0, if_false]
    exact Ev.val (by show acc = acc + 0; omega)
  | succ d ih =>
    intro x acc hd6 h0 hx ha hb
    refine Ev.step (fun k => spec_l4Size.l0.eq_2 ..) ?_
    by_cases e : x > 0
    · have hp : (2 : Nat) ^ (d + 1) = 2 ^ d * 2 := Nat.pow_succ ..
      have h64 : (2 : Nat) ^ d ≤ 2 ^ 6 := Nat.pow_le_pow_right (by decide) (by omega)
      rw [hp] at hx
      have e1 : wrap64 (Int.tdiv x 2) = x / 2 := by rw [tdiv_nn h0, w64 (by omega) (by omega)]
      have e2 : wrap64 (acc + Int.tmod x 2) = acc + x % 2 := by rw [tmod_nn h0, w64 (by omega) (by omega)]
      have g := ih (x / 2) (acc + x % 2) (by omega) (by omega) (by omega) (by omega) (by omega)
      simp only [e, if_true, e1, e2]
      have e3 : acc + sizeN (d + 1) x = acc + x % 2 + sizeN d (x / 2) := by show acc + (x % 2 + _) = _; omega
      rw [e3]
      exact g
    · have e0 : x = 0 := by omega
      simp only [e, if_false]
      exact Ev.val (by rw [e0, sizeN_zero]; omega)
theorem spec_l4Size_ev {x : Int} (h0 : 0 ≤ x) (h : x < 64) : Ev (fun k => spec_l4Size.f k x) (popc x) := by
  unfold spec_l4Size.f
  have g := spec_l4Size_l0 6 x 0 (by omega) h0 (by have e1 : (2 : Nat) ^ 6 = 64 := rfl; omega) (by omega) (by omega)
  obtain ⟨n, rfl⟩ := Int.eq_ofNat_of_zero_le h0
  have e := sizeN_all n (List.mem_range.2 (by omega))
  rw [← e]
  have e0 : (0 : Int) + sizeN 6 (n : Int) = sizeN 6 (n : Int) := by omega
  rw [e0] at g
  exact g

theorem spec_FewestLights_l0 (net : List Int) (T : Int) (hn : NetP net) (hT : 0 ≤ T) (N : Nat) (hN : N = 2 ^ net.length) (h64 : N ≤ 64) : ∀ (d q : Nat) (acc : Int), q + d = N → 1 ≤ q → popc (lights net T) ≤ acc → acc ≤ 6 →
    (∀ y : Nat, 1 ≤ y → y < q → Cov net T (y : Int) → acc ≤ popc (y : Int)) →
    Ev (fun k => spec_FewestLights.l0 k net T acc (q : Int)) (popc (lights net T)) := by
  intro d
  have h6 := hn.2.1
  have hI := lights_inv h6 hT
  have hsh : shl .i64 1 (net.length : Int) = (N : Int) := by rw [shl1 (by omega), two_pow_cast, hN]
  induction d with
  | zero =>
    intro q acc hd h1 hm ha hall
    obtain rfl : q = N := by omega
    refine Ev.step (fun k => spec_FewestLights.l0.eq_2 ..) ?_
    have e0 : ¬ ((q : Int) < (q : Int)) := by omega
    simp only [hsh, e0, if_false]
    have hp := lights_pos hn hT
    have hlt := hI.lt
    rw [two_pow_cast, ← hN] at hlt
    obtain ⟨y, hy⟩ := Int.eq_ofNat_of_zero_le hI.nn
    have h2 := hall y (by omega) (by omega) (by rw [← hy]; exact hI.cov)
    rw [← hy] at h2
    exact Ev.val (by omega)
  | succ d ih =>
    intro q acc hd h1 hm ha hall
    refine Ev.step (fun k => spec_FewestLights.l0.eq_2 ..) ?_
    have c1 : (q : Int) < (N : Int) := by omega
    have hw : wrap64 ((q : Int) + 1) = ((q + 1 : Nat) : Int) := by rw [w64 (by omega) (by omega)]; omega
    simp only [hsh, c1, if_true, hw]
    have hlt : (q : Int) < 2 ^ net.length := by rw [two_pow_cast, ← hN]; omega
    refine Ev.bind (spec_l4Covers_ev net (q : Int) T ⟨hn, by omega, hlt⟩) ?_
    by_cases hc : Cov net T (q : Int)
    · simp only [hc, decide_true, if_true]
      refine Ev.bind (spec_l4Size_ev (x := (q : Int)) (by omega) (by omega)) ?_
      have h2 := lights_le h6 hT (by omega) hlt hc
      refine ih (q + 1) _ (by omega) (by omega) ?_ ?_ ?_
      · unfold mn; split <;> omega
      · unfold mn; split <;> omega
      · intro y hy1 hy2 hcy
        by_cases e : y = q
        · subst e; unfold mn; split <;> omega
        · have := hall y hy1 (by omega) hcy
          unfold mn; split <;> omega
    · simp only [hc, decide_false, Bool.false_eq_true, if_false]
      refine ih (q + 1) _ (by omega) (by omega) hm ha (fun y hy1 hy2 hcy => ?_)
      by_cases e : y = q
      · subst e; exact (hc hcy).elim
      · exact hall y hy1 (by omega) hcy
theorem spec_FewestLights_ev (net : List Int) (T : Int) (hl : net.length ≤ 1048576) : Ev (fun k => spec_FewestLights.f k net T) (fewestLights net T) := by
  unfold spec_FewestLights.f
  refine Ev.bind (spec_NetOk_ev net hl) ?_
  by_cases hn : NetP net
  · have h6 := hn.2.1
    simp only [hn, decide_true, if_true]
    by_cases hT : T < 0
    · simp only [hT, decide_true]
      refine Ev.step (fun k => spec_FewestLights.j0.eq_2 ..) ?_
      simp only [if_true]
      exact Ev.val (by unfold fewestLights; rw [if_neg (fun g => by omega)])
    · simp only [hT, decide_false]
      refine Ev.step (fun k => spec_FewestLights.j0.eq_2 ..) ?_
      have h64 : 2 ^ net.length ≤ 2 ^ 6 := Nat.pow_le_pow_right (by decide) h6
      have hpos : 2 ^ 1 ≤ 2 ^ net.length := Nat.pow_le_pow_right (by decide) hn.1
      simp only [Bool.false_eq_true, if_false]
      have hf := lights_le (T := T) h6 (by omega) (by have := pow_pos2 net.length; omega) (by omega) (cov_full (net := net) (T := T) (by omega))
      rw [popc_full h6] at hf
      have g := spec_FewestLights_l0 net T hn (by omega) (2 ^ net.length) rfl (by omega) (2 ^ net.length - 1) 1 (net.length : Int) (by omega) (by omega) hf (by omega) (fun y h1 h2 => by omega)
      have e : fewestLights net T = popc (lights net T) := if_pos ⟨hn, by omega⟩
      rw [e]
      exact g
  · simp only [hn, decide_false, Bool.false_eq_true, if_false]
    refine Ev.step (fun k => spec_FewestLights.j0.eq_2 ..) ?_
    simp only [if_true]
    exact Ev.val (by unfold fewestLights; rw [if_neg (fun g => hn g.1)])

theorem spec_LightsFor_l0 (net : List Int) (T : Int) (hn : NetP net) (hT : 0 ≤ T) : ∀ (d q : Nat), (q : Int) + d = lights net T → 1 ≤ q →
    Ev (fun k => spec_LightsFor.l0 k net T (popc (lights net T)) (q : Int)) (lights net T) := by
  intro d
  have h6 := hn.2.1
  have hI := lights_inv h6 hT
  have hlt := hI.lt
  have hsh : shl .i64 1 (net.length : Int) = 2 ^ net.length := shl1 (by omega)
  have h64 : 2 ^ net.length ≤ 2 ^ 6 := Nat.pow_le_pow_right (by decide) h6
  have hp64 : (2 : Int) ^ net.length ≤ 64 := by rw [two_pow_cast]; omega
  have hpc := (popc_bd (lights net T)).1
  induction d with
  | zero =>
    intro q hd h1
    have eq : lights net T = (q : Int) := by omega
    rw [eq] at hlt hpc ⊢
    have hc := hI.cov
    rw [eq] at hc
    refine Ev.step (fun k => spec_LightsFor.l0.eq_2 ..) ?_
    have c1 : popc (q : Int) ≥ 0 := hpc
    simp only [c1, if_true, hsh, hlt, decide_true]
    refine Ev.step (fun k => spec_LightsFor.j1.eq_2 ..) ?_
    simp only [if_true]
    refine Ev.bind (spec_l4Size_ev (x := (q : Int)) (by omega) (by omega)) ?_
    simp only [if_true]
    refine Ev.bind (spec_l4Covers_ev net (q : Int) T ⟨hn, by omega, hlt⟩) ?_
    simp only [hc, decide_true, if_true]
    exact Ev.now _
  | succ d ih =>
    intro q hd h1
    refine Ev.step (fun k => spec_LightsFor.l0.eq_2 ..) ?_
    have c1 : popc (lights net T) ≥ 0 := hpc
    have hq : (q : Int) < 2 ^ net.length := by omega
    have hw : wrap64 ((q : Int) + 1) = ((q + 1 : Nat) : Int) := by rw [w64 (by omega) (by omega)]; omega
    simp only [c1, if_true, hsh, hq, decide_true]
    refine Ev.step (fun k => spec_LightsFor.j1.eq_2 ..) ?_
    simp only [if_true, hw]
    have hn1 := ih (q + 1) (by omega) (by omega)
    refine Ev.bind (spec_l4Size_ev (x := (q : Int)) (by omega) (by omega)) ?_
    by_cases e : popc (q : Int) = popc (lights net T)
    · simp only [e, if_true]
      refine Ev.bind (spec_l4Covers_ev net (q : Int) T ⟨hn, by omega, hq⟩) ?_
      have hc : ¬ Cov net T (q : Int) := fun hc => by
        have := hI.fst q (by have := hq; rw [two_pow_cast] at this; omega) (by omega) hc
        omega
      simp only [hc, decide_false, Bool.false_eq_true, if_false]
      exact hn1
    · simp only [e, if_false]
      exact hn1
theorem spec_LightsFor_ev (net : List Int) (T : Int) (hl : net.length ≤ 1048576) : Ev (fun k => spec_LightsFor.f k net T) (lightsFor net T) := by
  unfold spec_LightsFor.f
  refine Ev.bind (spec_FewestLights_ev net T hl) ?_
  by_cases h : NetP net ∧ 0 ≤ T
  · have h1 := lights_pos h.1 h.2
    rw [lightsFor_yes h.1 h.2, fewestLights_yes h.1 h.2]
    exact spec_LightsFor_l0 net T h.1 h.2 (lights net T - 1).toNat 1 (by omega) (by omega)
  · rw [lightsFor_no h, fewestLights_no h]
    refine Ev.step (fun k => spec_LightsFor.l0.eq_2 ..) ?_
    have e0 : ¬ (-1 : Int) ≥ 0 := by decide
    simp only [e0, if_false]
    refine Ev.step (fun k => spec_LightsFor.j1.eq_2 ..) ?_
    simp only [Bool.false_eq_true, if_false]
    exact Ev.now _

-- needs Fire
theorem impl_nearOf_l0 (net : List Int) (hn : NetP net) (w : Int) (hw : 0 ≤ w) : ∀ (d i : Nat) (x : Int), net.length - i = d → i ≤ net.length → 0 ≤ x → x < 64 → (∀ k, bitOf x k ↔ ∃ j, j < i ∧ bitOf w j ∧ adj net j k) →
    ∃ y, Ev (fun k => impl_nearOf.l0 k w x net (net.length : Int) (i : Int)) y ∧ 0 ≤ y ∧ y < 64 ∧ ∀ k, bitOf y k ↔ ∃ j, j < net.length ∧ bitOf w j ∧ adj net j k := by
  intro d
  have h6 := hn.2.1
  induction d with
  | zero =>
    intro i x hd hi h0 h64 hb
    have ei : i = net.length := by omega
    refine ⟨x, ?_, h0, h64, by rw [ei] at hb; exact hb⟩
    refine Ev.step (fun k => impl_nearOf.l0.eq_2 ..) ?_
    clear hb
    simp (disch := omega) only [if_pos, if_neg, w64, rdn, rd0, tn, sc, Option.bind_some, ↓reduceIte, Bool.false_eq_true, Bool.true_eq_false]
    exact Ev.now _
  | succ d ih =>
    intro i x hd hi h0 h64 hb
    have hbit := bit_and w (j := i) (by omega)
    by_cases e1 : w / 2 ^ i % 2 = 1
    · have hb64 := net_lt64 hn (show i < net.length by omega)
      obtain ⟨z, hz, hz0, hz64, hzb⟩ := or_two h0 h64 hb64.1 hb64.2
      obtain ⟨y, hy, h1, h2, h3⟩ := ih (i + 1) z (by omega) (by omega) hz0 hz64 (fun k => by
        have g1 := hzb k
        have g2 := hb k
        constructor
        · intro g
          rcases g1.1 g with g | g
          · obtain ⟨j, hj, a, b⟩ := g2.1 g; exact ⟨j, by omega, a, b⟩
          · exact ⟨i, by omega, e1, g⟩
        · rintro ⟨j, hj, a, b⟩
          by_cases ej : j = i
          · subst ej; exact g1.2 (Or.inr b)
          · exact g1.2 (Or.inl (g2.2 ⟨j, by omega, a, b⟩)))
      refine ⟨y, ?_, h1, h2, h3⟩
      refine Ev.step (fun k => impl_nearOf.l0.eq_2 ..) ?_
      clear hb hzb h3
      simp only [rdn, hbit, hz]
      clear hbit
      simp (disch := omega) only [if_pos, if_neg, w64, rdn, rd0, tn, sc, Option.bind_some, ↓reduceIte, Bool.false_eq_true, Bool.true_eq_false]
      exact hy
    · obtain ⟨y, hy, h1, h2, h3⟩ := ih (i + 1) x (by omega) (by omega) h0 h64 (fun k => by
        rw [hb k]
        constructor
        · rintro ⟨j, hj, a, b⟩; exact ⟨j, by omega, a, b⟩
        · rintro ⟨j, hj, a, b⟩
          by_cases ej : j = i
          · subst ej; exact absurd a e1
          · exact ⟨j, by omega, a, b⟩)
      refine ⟨y, ?_, h1, h2, h3⟩
      refine Ev.step (fun k => impl_nearOf.l0.eq_2 ..) ?_
      clear hb h3
      simp only [rdn, hbit]
      clear hbit
      simp (disch := omega) only [if_pos, if_neg, w64, rdn, rd0, tn, sc, Option.bind_some, ↓reduceIte, Bool.false_eq_true, Bool.true_eq_false]
      exact hy
theorem impl_nearOf_ev (net : List Int) (hn : NetP net) (w : Int) (hw : 0 ≤ w) : ∃ y, Ev (fun k => impl_nearOf.f k net w) y ∧ 0 ≤ y ∧ y < 64 ∧ ∀ k, bitOf y k ↔ ∃ j, j < net.length ∧ bitOf w j ∧ adj net j k := by
  unfold impl_nearOf.f
  exact impl_nearOf_l0 net hn w hw _ 0 0 rfl (by omega) (by omega) (by omega) (fun k => ⟨fun g => by unfold bitOf at g; simp at g, fun ⟨j, hj, _⟩ => by omega⟩)

theorem impl_NearOf_yes (net : List Int) (x : Int) (h : SetP net x) : ∃ y, Ev (fun k => impl_NearOf.f k net x) y ∧ 0 ≤ y ∧ y < 64 ∧ ∀ k, bitOf y k ↔ ∃ j, j < net.length ∧ bitOf x j ∧ adj net j k := by
  obtain ⟨y, hy, h1⟩ := impl_nearOf_ev net h.1 x h.2.1
  have h6 := h.1.2.1
  refine ⟨y, ?_, h1⟩
  unfold impl_NearOf.f
  refine Ev.bind (impl_setOk_ev net x (by omega)) ?_
  simp only [h, decide_true, if_true]
  refine Ev.bind hy ?_
  exact Ev.now _

-- needs Lights
theorem set_of_bits {z : Int} {n : Nat} (h0 : 0 ≤ z) (h : ∀ k, bitOf z k → k < n) : z < 2 ^ n := by
  obtain ⟨m, rfl⟩ := Int.eq_ofNat_of_zero_le h0
  have hm : m < 2 ^ n := by
    apply Nat.lt_pow_two_of_testBit
    intro i hi
    cases hb : m.testBit i with
    | false => rfl
    | true => have := h i ((bit_cast m i).2 hb); omega
  rw [two_pow_cast]; omega
theorem FnLightsGrow_l0 (net : List Int) (T y z : Int) (hn : NetP net) (hT : 1 ≤ T) (hT3 : T ≤ 3) (hy : 0 ≤ y) (hc : Cov net (T - 1) z) : ∀ (d i : Nat), i + d = net.length →
    Ev (fun k => laws_FnLightsGrow.l0 k net T y (distRow net z) (i : Int)) true := by
  intro d
  have h6 := hn.2.1
  have hl := distRow_length net z
  induction d with
  | zero =>
    intro i hd
    obtain rfl : i = net.length := by omega
    refine Ev.step (fun k => laws_FnLightsGrow.l0.eq_2 ..) ?_
    have e0 : ¬ ((net.length : Int) < (net.length : Int)) := by omega
    simp only [e0, if_false]
    refine Ev.bind alive_ev ?_
    simp only [if_true]
    exact Ev.val (decide_eq_true hy)
  | succ d ih =>
    intro i hd
    refine Ev.step (fun k => laws_FnLightsGrow.l0.eq_2 ..) ?_
    have c1 : (i : Int) < (net.length : Int) := by omega
    have c2 : 0 ≤ (i : Int) := by omega
    have hw : wrap64 ((i : Int) + 1) = ((i + 1 : Nat) : Int) := by rw [w64 (by omega) (by omega)]; omega
    have hw2 : wrap64 (T - 1) = T - 1 := w64 (by omega) (by omega)
    have hci := hc i (by omega)
    have hn1 := ih (i + 1) (by omega)
    have n1 : ¬ G (distRow net z) i < 0 := by omega
    have n2 : ¬ G (distRow net z) i > T - 1 := by omega
    simp only [c1, c2, hl, if_true, rdn, n1, hw2, n2, if_false, hw]
    exact hn1
theorem FnLightsGrow : laws_FnLightsGrow.Pure := by
  intro l _ _ hwf
  refine Ev.rounds (r := true) ?_
  obtain ⟨net, T, hr, h6, hT1, hT2⟩ := DrawLightsFor_ev l hwf
  unfold laws_FnLightsGrow.f
  by_cases hl : l.length ≤ 1048576
  · simp only [show ¬ (l.length : Int) > 1048576 by omega, if_false]
    refine Ev.bind hr ?_
    refine Ev.bind (impl_LightsFor_ev net T (by omega)) ?_
    have hyes : Ev (fun k => laws_FnLightsGrow.j0 k net T (lightsFor net T) true) true := by
      refine Ev.step (fun k => laws_FnLightsGrow.j0.eq_2 ..) ?_
      simp only [if_true]
      refine Ev.bind (spec_LightsFor_ev net T (by omega)) ?_
      simp only [if_true]
      refine Ev.bind alive_ev ?_
      exact Ev.now _
    by_cases h : NetP net ∧ 0 ≤ T
    · obtain ⟨hn, hT⟩ := h
      have hp := lights_pos hn hT
      have hI := lights_inv (T := T) h6 hT
      rw [lightsFor_yes hn hT] at hyes ⊢
      have e0 : ¬ lights net T < 0 := by omega
      simp only [e0, if_false]
      by_cases ht : T < 1
      · simp only [ht, decide_true]
        exact hyes
      · simp only [ht, decide_false]
        refine Ev.step (fun k => laws_FnLightsGrow.j0.eq_2 ..) ?_
        simp only [Bool.false_eq_true, if_false]
        have hS : SetP net (lights net T) := ⟨hn, hI.nn, hI.lt⟩
        obtain ⟨y, hy, hy0, hy64, hyb⟩ := impl_NearOf_yes net (lights net T) hS
        refine Ev.bind hy ?_
        have hmx : mx y 0 = y := by unfold mx; split <;> omega
        obtain ⟨z, hz, hz0, hz64, hzb⟩ := or_two hI.nn (lights_lt64 hn hT) hy0 hy64
        have hbz : ∀ k, bitOf z k ↔ (bitOf (lights net T) k ∨ ∃ j, j < net.length ∧ bitOf (lights net T) j ∧ adj net j k) := fun k => (hzb k).trans (or_congr Iff.rfl (hyb k))
        have hSz : SetP net z := ⟨hn, hz0, set_of_bits hz0 (fun k hk => by
          rcases (hbz k).1 hk with g | ⟨j, hj, _, ha⟩
          · exact bit_lt hI.nn hI.lt g
          · exact adj_lt hn hj ha)⟩
        rw [hmx, hz]
        refine Ev.bind (impl_DistancesFrom_ev net z (by omega)) ?_
        rw [distancesFrom_yes hSz]
        exact FnLightsGrow_l0 net T y z hn (by omega) hT2 hy0 (cov_grow (by omega) hI.cov hbz) net.length 0 (by omega)
    · rw [lightsFor_no h] at hyes ⊢
      have e0 : (-1 : Int) < 0 := by decide
      simp only [e0, if_true]
      exact hyes
  · simp (disch := omega) only [if_pos, if_neg, w64, rdn, rd0, tn, sc, Option.bind_some, ↓reduceIte, Bool.false_eq_true, Bool.true_eq_false]
    exact Ev.now _

end Go.Proofs.Ytgkjapgfldnjkaa.Pure
