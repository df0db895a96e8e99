/- Proved: the statement FnStillOk, for every input, without further conditions. -/
import Derived.Test.YtgkjapgfldnjkaaPFnStillOkx8
import Derived.Test.YtgkjapgfldnjkaaBase
import Derived.Test.YtgkjapgfldnjkaaTurn
namespace Go.Proofs.Ytgkjapgfldnjkaa.Pure
open Go.RowKit Go.Proofs.Ytgkjapgfldnjkaa.PFnStillOk Go.Proofs.YtgkjapgfldnjkaaW.PrintWords Go.Proofs.YtgkjapgfldnjkaaW.PrintLast Go.Proofs.Ytgkjapgfldnjkaa.B Go.Proofs.Ytgkjapgfldnjkaa.C
set_option linter.unusedSimpArgs false
set_option linter.unusedVariables false

theorem impl_NetOk_l1 (l : List Int) (h6 : l.length ≤ 6) (i : Nat) (hi : i < l.length) (r : Bool)
    (hbad : ∀ k, k < l.length → ¬ (adj l i k ↔ adj l k i) → r = false)
    (hgood : (∀ k, k < l.length → (adj l i k ↔ adj l k i)) → Ev (fun k => impl_NetOk.l0 k l l (l.length : Int) ((i + 1 : Nat) : Int)) r) :
    ∀ (d : Nat) (j : Nat), l.length - j = d → j ≤ l.length → (∀ k, k < j → (adj l i k ↔ adj l k i)) →
      Ev (fun k => impl_NetOk.l1 k l (i : Int) (G l i) l (l.length : Int) (i : Int) (l.length : Int) (j : Int)) r := by
  intro d
  induction d with
  | zero =>
    intro j hd hj hk
    refine Ev.step (fun k => impl_NetOk.l1.eq_2 ..) ?_
    simp (disch := omega) only [if_pos, if_neg, w64, rdn, rd0, tn, sc, Option.bind_some, ↓reduceIte, Bool.false_eq_true, Bool.true_eq_false]
    exact hgood (fun k hkl => hk k (by omega))
  | succ d ih =>
    intro j hd hj hk
    refine Ev.step (fun k => impl_NetOk.l1.eq_2 ..) ?_
    have b1 := bit_and (G l i) (j := j) (by omega)
    have b2 := bit_and (G l j) (j := i) (by omega)
    have m1 := Int.emod_two_eq (G l i / 2 ^ j)
    have m2 := Int.emod_two_eq (G l j / 2 ^ i)
    by_cases e : adj l i j ↔ adj l j i
    · have e' : G l i / 2 ^ j % 2 = G l j / 2 ^ i % 2 := by
        unfold adj at e
        by_cases c : G l i / 2 ^ j % 2 = 1
        · rw [c, e.1 c]
        · have c2 := fun h => c (e.2 h)
          omega
      simp only [rdn, b1, b2]
      simp (disch := omega) only [if_pos, if_neg, w64, rdn, rd0, tn, sc, Option.bind_some, ↓reduceIte, Bool.false_eq_true, Bool.true_eq_false]
      refine ih _ (by omega) (by omega) ?_
      intro k hkj
      by_cases e' : k = j
      · subst e'; exact e
      · exact hk k (by omega)
    · have e' : ¬ G l i / 2 ^ j % 2 = G l j / 2 ^ i % 2 := by
        intro h
        apply e
        unfold adj
        rw [h]
      simp only [rdn, b1, b2]
      simp (disch := omega) only [if_pos, if_neg, w64, rdn, rd0, tn, sc, Option.bind_some, ↓reduceIte, Bool.false_eq_true, Bool.true_eq_false]
      exact Ev.val (hbad j (by omega) e).symm
theorem impl_NetOk_l0 (l : List Int) (h1 : 1 ≤ l.length) (h6 : l.length ≤ 6) : ∀ (d : Nat) (i : Nat), l.length - i = d → i ≤ l.length →
    (∀ j, j < i → (0 ≤ G l j ∧ G l j < 2 ^ l.length ∧ ¬ adj l j j ∧ ∀ k, k < l.length → (adj l j k ↔ adj l k j))) → Ev (fun k => impl_NetOk.l0 k l l (l.length : Int) (i : Int)) (decide (NetP l)) := by
  intro d
  induction d with
  | zero =>
    intro i hd hi hj
    refine Ev.step (fun k => impl_NetOk.l0.eq_2 ..) ?_
    simp (disch := omega) only [if_pos, if_neg, w64, rdn, rd0, tn, sc, Option.bind_some, ↓reduceIte, Bool.false_eq_true, Bool.true_eq_false]
    have : NetP l := ⟨h1, h6, fun j h => hj j (by omega)⟩
    exact Ev.val (by simp [this])
  | succ d ih =>
    intro i hd hi hj
    refine Ev.step (fun k => impl_NetOk.l0.eq_2 ..) ?_
    have hs := shl1 (n := l.length) (by omega)
    have hb := bit_and (G l i) (j := i) (by omega)
    simp only [rdn, hs, hb]
    have bad : ¬ (0 ≤ G l i ∧ G l i < 2 ^ l.length ∧ ¬ adj l i i) → decide (NetP l) = false := by
      intro h
      have : ¬ NetP l := fun p => h ⟨(p.2.2 i (by omega)).1, (p.2.2 i (by omega)).2.1, (p.2.2 i (by omega)).2.2.1⟩
      simp [this]
    by_cases e0 : G l i < 0
    · simp (disch := omega) only [if_pos, if_neg, w64, rdn, rd0, tn, sc, Option.bind_some, ↓reduceIte, Bool.false_eq_true, Bool.true_eq_false]
      refine Ev.step (fun k => impl_NetOk.j2.eq_2 ..) ?_
      simp (disch := omega) only [if_pos, if_neg, w64, rdn, rd0, tn, sc, Option.bind_some, ↓reduceIte, Bool.false_eq_true, Bool.true_eq_false]
      exact Ev.val (bad (by omega)).symm
    · by_cases e1 : G l i ≥ 2 ^ l.length
      · simp (disch := omega) only [if_pos, if_neg, w64, rdn, rd0, tn, sc, Option.bind_some, ↓reduceIte, Bool.false_eq_true, Bool.true_eq_false]
        refine Ev.step (fun k => impl_NetOk.j2.eq_2 ..) ?_
        simp (disch := omega) only [if_pos, if_neg, w64, rdn, rd0, tn, sc, Option.bind_some, ↓reduceIte, Bool.false_eq_true, Bool.true_eq_false]
        exact Ev.val (bad (by omega)).symm
      · simp (disch := omega) only [if_pos, if_neg, w64, rdn, rd0, tn, sc, Option.bind_some, ↓reduceIte, Bool.false_eq_true, Bool.true_eq_false]
        refine Ev.step (fun k => impl_NetOk.j2.eq_2 ..) ?_
        by_cases e2 : G l i / 2 ^ i % 2 = 1
        · have e3 : (G l i / 2 ^ i % 2 == 1) = true := by simp [e2]
          simp only [e3]
          simp (disch := omega) only [if_pos, if_neg, w64, rdn, rd0, tn, sc, Option.bind_some, ↓reduceIte, Bool.false_eq_true, Bool.true_eq_false]
          exact Ev.val (bad (fun h => h.2.2 e2)).symm
        · have e3 : (G l i / 2 ^ i % 2 == 1) = false := by simp [e2]
          simp only [e3]
          simp (disch := omega) only [if_pos, if_neg, w64, rdn, rd0, tn, sc, Option.bind_some, ↓reduceIte, Bool.false_eq_true, Bool.true_eq_false]
          refine impl_NetOk_l1 l h6 i (by omega) _ ?_ ?_ _ 0 rfl (by omega) (fun k h => by omega)
          · intro k hk hn
            have : ¬ NetP l := fun p => hn ((p.2.2 i (by omega)).2.2.2 k hk)
            simp [this]
          · intro hall
            refine ih _ (by omega) (by omega) ?_
            intro j hji
            by_cases e' : j = i
            · subst e'; exact ⟨by omega, by omega, e2, hall⟩
            · exact hj j (by omega)
theorem impl_NetOk_ev (l : List Int) (hl : l.length ≤ 1048576) : Ev (fun k => impl_NetOk.f k l) (decide (NetP l)) := by
  unfold impl_NetOk.f
  by_cases h1 : l.length < 1
  · simp (disch := omega) only [if_pos, if_neg, w64, rdn, rd0, tn, sc, Option.bind_some, ↓reduceIte, Bool.false_eq_true, Bool.true_eq_false]
    refine Ev.step (fun k => impl_NetOk.j0.eq_2 ..) ?_
    simp (disch := omega) only [if_pos, if_neg, w64, rdn, rd0, tn, sc, Option.bind_some, ↓reduceIte, Bool.false_eq_true, Bool.true_eq_false]
    have : ¬ NetP l := fun p => by have := p.1; omega
    exact Ev.val (by simp [this])
  · simp (disch := omega) only [if_pos, if_neg, w64, rdn, rd0, tn, sc, Option.bind_some, ↓reduceIte, Bool.false_eq_true, Bool.true_eq_false]
    refine Ev.step (fun k => impl_NetOk.j0.eq_2 ..) ?_
    by_cases h6 : l.length > 6
    · have : decide ((l.length : Int) > 6) = true := by simp; omega
      simp only [this]
      simp (disch := omega) only [if_pos, if_neg, w64, rdn, rd0, tn, sc, Option.bind_some, ↓reduceIte, Bool.false_eq_true, Bool.true_eq_false]
      have : ¬ NetP l := fun p => by have := p.2.1; omega
      exact Ev.val (by simp [this])
    · have : decide ((l.length : Int) > 6) = false := by simp; omega
      simp only [this]
      simp (disch := omega) only [if_pos, if_neg, w64, rdn, rd0, tn, sc, Option.bind_some, ↓reduceIte, Bool.false_eq_true, Bool.true_eq_false]
      exact impl_NetOk_l0 l (by omega) (by omega) _ 0 rfl (by omega) (fun j h => by omega)

theorem alive_ev : Ev (fun k => laws_alive.f k) true := by
  unfold laws_alive.f
  refine Ev.bind (impl_NetOk_ev _ (by decide)) ?_
  have e1 : decide (NetP [2, 1]) = true := by decide
  simp only [e1]
  simp (disch := omega) only [if_pos, if_neg, w64, rdn, rd0, tn, sc, Option.bind_some, ↓reduceIte, Bool.false_eq_true, Bool.true_eq_false]
  refine Ev.bind (impl_NetOk_ev _ (by decide)) ?_
  have e2 : decide (NetP [1]) = false := by decide
  simp only [e2, Bool.not_false]
  exact Ev.now _

/-- A reader's bytes. -/
def RdOk (b : List Int) : Prop := b.length ≤ 2000 ∧ ∀ i, 0 ≤ G b i ∧ G b i ≤ 255
theorem spec_l20Open_eq (l : List Int) (h : ∀ x ∈ l, (Lit.int .u8 x).wf = true) : ∃ b, spec_l20Open.f l = some (b, 0) ∧ RdOk b := by
  have hl : ∀ i, 0 ≤ G l i ∧ G l i ≤ 255 := by
    intro i
    by_cases e : i < l.length
    · exact wf_u8.1 (h _ (G_mem e))
    · rw [G_of_ge (by omega)]; omega
  unfold spec_l20Open.f
  by_cases e : l.length > 2000
  · simp (disch := omega) only [if_pos, if_neg, w64, rdn, rd0, tn, sc, Option.bind_some, ↓reduceIte, Bool.false_eq_true, Bool.true_eq_false]
    refine ⟨_, rfl, by simp; omega, fun i => ?_⟩
    by_cases ei : i < 2000
    · rw [G_take ei]; exact hl i
    · rw [G_of_ge (by simp; omega)]; omega
  · simp (disch := omega) only [if_pos, if_neg, w64, rdn, rd0, tn, sc, Option.bind_some, ↓reduceIte, Bool.false_eq_true, Bool.true_eq_false]
    exact ⟨_, rfl, by omega, hl⟩

theorem xor_nn {a b : Int} (ha : 0 ≤ a) (ha' : a < 4611686018427387904) (hb : 0 ≤ b) (hb' : b < 4611686018427387904) : 0 ≤ Go.bits .xor .i64 a b := by
  obtain ⟨m, rfl⟩ := Int.eq_ofNat_of_zero_le ha
  obtain ⟨n, rfl⟩ := Int.eq_ofNat_of_zero_le hb
  show 0 ≤ IntKind.i64.wrap (((BitVec.ofInt 64 (m : Int) ^^^ BitVec.ofInt 64 (n : Int)).toNat : Nat) : Int)
  have hx : (BitVec.ofInt 64 (m : Int) ^^^ BitVec.ofInt 64 (n : Int)).toNat < 2 ^ 62 := by
    rw [BitVec.toNat_xor]
    apply Nat.xor_lt_two_pow
    · rw [BitVec.ofInt_natCast, BitVec.toNat_ofNat, Nat.mod_eq_of_lt (by omega)]; omega
    · rw [BitVec.ofInt_natCast, BitVec.toNat_ofNat, Nat.mod_eq_of_lt (by omega)]; omega
  rw [i64_w, w64 (by omega) (by omega)]; omega
theorem pick_ev (b : List Int) (hb : RdOk b) (p n : Int) (hp : 0 ≤ p) (hp2 : p ≤ 1000000) (hn : n ≤ 1000000) :
    ∃ v, Ev (fun k => spec_l20Rd_pick.f k b p n) (v, p + 1) ∧ 0 ≤ v ∧ (1 ≤ n → v < n) ∧ (n < 1 → v = 0) := by
  obtain ⟨q, rfl⟩ := Int.eq_ofNat_of_zero_le hp
  unfold spec_l20Rd_pick.f
  have hw : wrap64 ((q : Int) + 1) = (q : Int) + 1 := w64 (by omega) (by omega)
  have hw2 : wrap64 ((q : Int) + 1 - 1) = (q : Int) := by rw [w64 (by omega) (by omega)]; omega
  by_cases h1 : n < 1
  · refine ⟨0, ?_, by omega, fun h => by omega, fun _ => rfl⟩
    simp only [hw]
    rw [show (fun k => if n < 1 then spec_l20Rd_pick.j0 k n true b ((q : Int) + 1) else spec_l20Rd_pick.j0 k n ((b.length : Int) == 0) b ((q : Int) + 1)) = (fun k => spec_l20Rd_pick.j0 k n true b ((q : Int) + 1)) from funext fun k => if_pos h1]
    refine Ev.step (fun k => spec_l20Rd_pick.j0.eq_2 ..) ?_
    simp only [↓reduceIte]
    exact Ev.now _
  · simp only [hw]
    rw [show (fun k => if n < 1 then spec_l20Rd_pick.j0 k n true b ((q : Int) + 1) else spec_l20Rd_pick.j0 k n ((b.length : Int) == 0) b ((q : Int) + 1)) = (fun k => spec_l20Rd_pick.j0 k n ((b.length : Int) == 0) b ((q : Int) + 1)) from funext fun k => if_neg h1]
    by_cases h0 : b.length = 0
    · refine ⟨0, ?_, by omega, fun h => by omega, fun _ => rfl⟩
      have : ((b.length : Int) == 0) = true := beq_iff_eq.2 (by omega)
      rw [this]
      refine Ev.step (fun k => spec_l20Rd_pick.j0.eq_2 ..) ?_
      simp only [↓reduceIte]
      exact Ev.now _
    · have hz : ((b.length : Int) == 0) = false := beq_eq_false_iff_ne.2 (by omega)
      rw [hz]
      by_cases hq : q < b.length
      · have hg := hb.2 q
        have hwg : wrap64 (G b q) = G b q := w64 (by omega) (by omega)
        refine ⟨G b q % n, ?_, Int.emod_nonneg _ (by omega), fun h => Int.emod_lt_of_pos _ (by omega), fun h => absurd h h1⟩
        refine Ev.step (fun k => spec_l20Rd_pick.j0.eq_2 ..) ?_
        simp only [hw2, rdn, hwg]
        rw [tmod_nn hg.1]
        simp (disch := omega) only [if_pos, if_neg, w64, rdn, rd0, tn, sc, Option.bind_some, ↓reduceIte, Bool.false_eq_true, Bool.true_eq_false]
        exact Ev.now _
      · have hL := hb.1
        have hm1 : q % b.length < b.length := Nat.mod_lt _ (by omega)
        have hm2 : (q * 7 + 3) % b.length < b.length := Nat.mod_lt _ (by omega)
        have e1 : Int.tmod (q : Int) (b.length : Int) = ((q % b.length : Nat) : Int) := by rw [tmod_nn (by omega)]; rfl
        have e2 : wrap64 (wrap64 ((q : Int) * 7) + 3) = ((q * 7 + 3 : Nat) : Int) := by rw [w64 (n := (q : Int) * 7) (by omega) (by omega), w64 (by omega) (by omega)]; omega
        have e3 : Int.tmod ((q * 7 + 3 : Nat) : Int) (b.length : Int) = (((q * 7 + 3) % b.length : Nat) : Int) := by rw [tmod_nn (by omega)]; rfl
        obtain ⟨Q, hQ⟩ : ∃ Q, Q = q / b.length := ⟨_, rfl⟩
        have hd : Q ≤ q := by rw [hQ]; exact Nat.div_le_self _ _
        have e4 : Int.tdiv (q : Int) (b.length : Int) = (Q : Int) := by rw [tdiv_nn (by omega), hQ]; rfl
        clear hQ
        have g1 := hb.2 (q % b.length)
        have g2 := hb.2 ((q * 7 + 3) % b.length)
        have f1 : wrap64 (wrap64 (G b (q % b.length)) * 131) = G b (q % b.length) * 131 := by rw [w64 (n := G b (q % b.length)) (by omega) (by omega), w64 (by omega) (by omega)]
        have f2 : wrap64 (wrap64 (G b ((q * 7 + 3) % b.length)) * 1117) = G b ((q * 7 + 3) % b.length) * 1117 := by rw [w64 (n := G b ((q * 7 + 3) % b.length)) (by omega) (by omega), w64 (by omega) (by omega)]
        have f3 : wrap64 ((q : Int) * 29) = (q : Int) * 29 := w64 (by omega) (by omega)
        have f4 : wrap64 (wrap64 ((Q : Int)) * 53) = (Q : Int) * 53 := by rw [w64 (n := (Q : Int)) (by omega) (by omega), w64 (by omega) (by omega)]
        have f5 : wrap64 (G b (q % b.length) * 131 + G b ((q * 7 + 3) % b.length) * 1117) = G b (q % b.length) * 131 + G b ((q * 7 + 3) % b.length) * 1117 := w64 (by omega) (by omega)
        have f6 : wrap64 (G b (q % b.length) * 131 + G b ((q * 7 + 3) % b.length) * 1117 + (q : Int) * 29) = G b (q % b.length) * 131 + G b ((q * 7 + 3) % b.length) * 1117 + (q : Int) * 29 := w64 (by omega) (by omega)
        have f7 : wrap64 (G b (q % b.length) * 131 + G b ((q * 7 + 3) % b.length) * 1117 + (q : Int) * 29 + (Q : Int) * 53) = G b (q % b.length) * 131 + G b ((q * 7 + 3) % b.length) * 1117 + (q : Int) * 29 + (Q : Int) * 53 := w64 (by omega) (by omega)
        obtain ⟨X, hX⟩ : ∃ X, X = G b (q % b.length) * 131 + G b ((q * 7 + 3) % b.length) * 1117 + (q : Int) * 29 + (Q : Int) * 53 := ⟨_, rfl⟩
        have hX0 : 0 ≤ X := by omega
        have hX1 : X < 4611686018427387904 := by omega
        have f8 : wrap64 (Int.tdiv X 64) = X / 64 := by rw [tdiv_nn hX0, w64 (by omega) (by omega)]
        have f9 : wrap64 X = X := w64 (by omega) (by omega)
        have hx := xor_nn hX0 hX1 (b := X / 64) (by omega) (by omega)
        refine ⟨Go.bits .xor .i64 X (X / 64) % n, ?_, Int.emod_nonneg _ (by omega), fun h => Int.emod_lt_of_pos _ (by omega), fun h => absurd h h1⟩
        refine Ev.step (fun k => spec_l20Rd_pick.j0.eq_2 ..) ?_
        simp only [hw2, e1, e2, e3, e4, rdn, f1, f2, f3, f4, f5, f6, f7, ← hX, f9, f8]
        rw [tmod_nn hx]
        simp (disch := omega) only [if_pos, if_neg, w64, rdn, rd0, tn, sc, Option.bind_some, ↓reduceIte, Bool.false_eq_true, Bool.true_eq_false]
        exact Ev.now _

theorem spec_l1In_eq (a b c : Int) : spec_l1In.f a b c = some (decide (b ≤ a ∧ a ≤ c)) := by
  unfold spec_l1In.f
  by_cases h : b ≤ a <;> simp [h]

theorem RingNet_l0 (n : Nat) (h1 : 3 ≤ n) (h6 : n ≤ 6) : ∀ (d i : Nat) (x : List Int), n - i = d → i ≤ n → x.length = i → ∃ r, Ev (fun k => spec_RingNet.l0 k (n : Int) x (i : Int)) r ∧ r.length = n := by
  intro d
  induction d with
  | zero =>
    intro i x hd hi hx
    refine ⟨x, ?_, by omega⟩
    refine Ev.step (fun k => spec_RingNet.l0.eq_2 ..) ?_
    simp (disch := omega) only [if_pos, if_neg, w64, rdn, rd0, tn, sc, Option.bind_some, ↓reduceIte, Bool.false_eq_true, Bool.true_eq_false]
    exact Ev.now _
  | succ d ih =>
    intro i x hd hi hx
    have e1 : spec_l1In.f (n : Int) 3 6 = some true := by rw [spec_l1In_eq]; simp; omega
    have hw0 : wrap64 ((i : Int) + 1) = ((i + 1 : Nat) : Int) := by rw [w64 (by omega) (by omega)]; rfl
    have hw1 : wrap64 (wrap64 ((i : Int) + (n : Int)) - 1) = ((i + n - 1 : Nat) : Int) := by
      rw [w64 (n := (i : Int) + (n : Int)) (by omega) (by omega), w64 (by omega) (by omega)]; omega
    have hm0 : Int.tmod ((i + 1 : Nat) : Int) (n : Int) = (((i + 1) % n : Nat) : Int) := by rw [tmod_nn (by omega)]; rfl
    have hm1 : Int.tmod ((i + n - 1 : Nat) : Int) (n : Int) = (((i + n - 1) % n : Nat) : Int) := by rw [tmod_nn (by omega)]; rfl
    obtain ⟨r, hr, hl⟩ := ih (i + 1) (x ++ [Go.bits .or .i64 (shl .i64 1 (((i + 1) % n : Nat) : Int)) (shl .i64 1 (((i + n - 1) % n : Nat) : Int))]) (by omega) (by omega) (by simp [hx])
    refine ⟨r, ?_, hl⟩
    refine Ev.step (fun k => spec_RingNet.l0.eq_2 ..) ?_
    simp only [hw0, hw1, hm0, hm1, e1, Option.bind_some]
    clear hw0 hw1 hm0 hm1 e1
    simp (disch := omega) only [if_pos, if_neg, w64, rdn, rd0, tn, sc, Option.bind_some, ↓reduceIte, Bool.false_eq_true, Bool.true_eq_false]
    exact hr
theorem RingNet_ev (n : Nat) (h1 : 3 ≤ n) (h6 : n ≤ 6) : ∃ r, Ev (fun k => spec_RingNet.f k (n : Int)) r ∧ r.length = n := by
  unfold spec_RingNet.f
  exact RingNet_l0 n h1 h6 _ 0 [] rfl (by omega) rfl

theorem odd_ev (b : List Int) (hb : RdOk b) (p n : Int) (hp : 0 ≤ p) (hp2 : p ≤ 1000000) (hn : n ≤ 1000000) :
    ∃ c p', Ev (fun k => spec_l20Rd_odd.f k b p n) (c, p') ∧ p ≤ p' ∧ p' ≤ p + 1 ∧ (n ≤ 0 → c = false) := by
  unfold spec_l20Rd_odd.f
  by_cases h : n > 0
  · obtain ⟨v, hv, _⟩ := pick_ev b hb p n hp hp2 hn
    refine ⟨v == wrap64 (n - 1), p + 1, ?_, by omega, by omega, fun h' => by omega⟩
    simp (disch := omega) only [if_pos, if_neg, w64, rdn, rd0, tn, sc, Option.bind_some, ↓reduceIte, Bool.false_eq_true, Bool.true_eq_false]
    refine Ev.bind hv ?_
    exact Ev.now _
  · refine ⟨false, p, ?_, by omega, by omega, fun _ => rfl⟩
    simp (disch := omega) only [if_pos, if_neg, w64, rdn, rd0, tn, sc, Option.bind_some, ↓reduceIte, Bool.false_eq_true, Bool.true_eq_false]
    exact Ev.now _

theorem PathNet_l0 (n : Nat) (h1 : 1 ≤ n) (h6 : n ≤ 6) : ∀ (d i : Nat) (x : List Int), n - i = d → i ≤ n → x.length = i → ∃ r, Ev (fun k => spec_PathNet.l0 k (n : Int) x (i : Int)) r ∧ r.length = n := by
  intro d
  induction d with
  | zero =>
    intro i x hd hi hx
    refine ⟨x, ?_, by omega⟩
    refine Ev.step (fun k => spec_PathNet.l0.eq_2 ..) ?_
    simp (disch := omega) only [if_pos, if_neg, w64, rdn, rd0, tn, sc, Option.bind_some, ↓reduceIte, Bool.false_eq_true, Bool.true_eq_false]
    refine Ev.step (fun k => spec_PathNet.j1.eq_2 ..) ?_
    simp (disch := omega) only [if_pos, if_neg, w64, rdn, rd0, tn, sc, Option.bind_some, ↓reduceIte, Bool.false_eq_true, Bool.true_eq_false]
    exact Ev.now _
  | succ d ih =>
    intro i x hd hi hx
    have e1 : spec_l1In.f (n : Int) 1 6 = some true := by rw [spec_l1In_eq]; simp; omega
    have hw0 : wrap64 ((i : Int) + 1) = ((i + 1 : Nat) : Int) := by rw [w64 (by omega) (by omega)]; rfl
    have next : ∀ v, ∃ r, Ev (fun k => spec_PathNet.l0 k (n : Int) (x ++ [v]) ((i + 1 : Nat) : Int)) r ∧ r.length = n := fun v => ih (i + 1) _ (by omega) (by omega) (by simp [hx])
    by_cases hi0 : 0 < i
    · have hw : wrap64 ((i : Int) - 1) = ((i - 1 : Nat) : Int) := by rw [w64 (by omega) (by omega)]; omega
      by_cases hn : i + 1 < n
      · obtain ⟨r, hr, hl⟩ := next (Go.bits .or .i64 (Go.bits .or .i64 0 (shl .i64 1 ((i - 1 : Nat) : Int))) (shl .i64 1 ((i + 1 : Nat) : Int)))
        refine ⟨r, ?_, hl⟩
        refine Ev.step (fun k => spec_PathNet.l0.eq_2 ..) ?_
        simp (disch := omega) only [if_pos, if_neg, w64, rdn, rd0, tn, sc, Option.bind_some, ↓reduceIte, Bool.false_eq_true, Bool.true_eq_false]
        simp only [e1, Option.bind_some]
        refine Ev.step (fun k => spec_PathNet.j1.eq_2 ..) ?_
        simp only [hw, hw0]
        simp (disch := omega) only [if_pos, if_neg, w64, rdn, rd0, tn, sc, Option.bind_some, ↓reduceIte, Bool.false_eq_true, Bool.true_eq_false]
        exact hr
      · obtain ⟨r, hr, hl⟩ := next (Go.bits .or .i64 0 (shl .i64 1 ((i - 1 : Nat) : Int)))
        refine ⟨r, ?_, hl⟩
        refine Ev.step (fun k => spec_PathNet.l0.eq_2 ..) ?_
        simp (disch := omega) only [if_pos, if_neg, w64, rdn, rd0, tn, sc, Option.bind_some, ↓reduceIte, Bool.false_eq_true, Bool.true_eq_false]
        simp only [e1, Option.bind_some]
        refine Ev.step (fun k => spec_PathNet.j1.eq_2 ..) ?_
        simp only [hw, hw0]
        simp (disch := omega) only [if_pos, if_neg, w64, rdn, rd0, tn, sc, Option.bind_some, ↓reduceIte, Bool.false_eq_true, Bool.true_eq_false]
        exact hr
    · by_cases hn : i + 1 < n
      · obtain ⟨r, hr, hl⟩ := next (Go.bits .or .i64 0 (shl .i64 1 ((i + 1 : Nat) : Int)))
        refine ⟨r, ?_, hl⟩
        refine Ev.step (fun k => spec_PathNet.l0.eq_2 ..) ?_
        simp (disch := omega) only [if_pos, if_neg, w64, rdn, rd0, tn, sc, Option.bind_some, ↓reduceIte, Bool.false_eq_true, Bool.true_eq_false]
        simp only [e1, Option.bind_some]
        refine Ev.step (fun k => spec_PathNet.j1.eq_2 ..) ?_
        simp only [hw0]
        simp (disch := omega) only [if_pos, if_neg, w64, rdn, rd0, tn, sc, Option.bind_some, ↓reduceIte, Bool.false_eq_true, Bool.true_eq_false]
        exact hr
      · obtain ⟨r, hr, hl⟩ := next 0
        refine ⟨r, ?_, hl⟩
        refine Ev.step (fun k => spec_PathNet.l0.eq_2 ..) ?_
        simp (disch := omega) only [if_pos, if_neg, w64, rdn, rd0, tn, sc, Option.bind_some, ↓reduceIte, Bool.false_eq_true, Bool.true_eq_false]
        simp only [e1, Option.bind_some]
        refine Ev.step (fun k => spec_PathNet.j1.eq_2 ..) ?_
        simp only [hw0]
        simp (disch := omega) only [if_pos, if_neg, w64, rdn, rd0, tn, sc, Option.bind_some, ↓reduceIte, Bool.false_eq_true, Bool.true_eq_false]
        exact hr
theorem PathNet_ev (n : Nat) (h1 : 1 ≤ n) (h6 : n ≤ 6) : ∃ r, Ev (fun k => spec_PathNet.f k (n : Int)) r ∧ r.length = n := by
  unfold spec_PathNet.f
  exact PathNet_l0 n h1 h6 _ 0 [] rfl (by omega) rfl

theorem l20Net_l0 (b : List Int) (hb : RdOk b) (n : Int) (hn : n ≤ 1000000) (nodes : Nat) (h1 : 1 ≤ nodes) (h6 : nodes ≤ 6) : ∀ (d : Nat) (x : List Int) (p : Int), x.length = nodes → 0 ≤ p → p ≤ 10000 - 2 * d →
    ∃ r p', Ev (fun k => spec_l20Net.l0 k n (nodes : Int) x (d : Int) b p) (r, p') ∧ p ≤ p' ∧ p' ≤ p + 2 * d + 2 ∧ r.length ≤ 6 := by
  intro d
  induction d with
  | zero =>
    intro x p hx hp hp2
    obtain ⟨c, p1, hc, hc1, hc2, _⟩ := odd_ev b hb p n hp (by omega) hn
    cases c with
    | false =>
      refine ⟨x, p1, ?_, by omega, by omega, by omega⟩
      refine Ev.step (fun k => spec_l20Net.l0.eq_2 ..) ?_
      simp (disch := omega) only [if_pos, if_neg, w64, rdn, rd0, tn, sc, Option.bind_some, ↓reduceIte, Bool.false_eq_true, Bool.true_eq_false]
      refine Ev.bind hc ?_
      simp (disch := omega) only [if_pos, if_neg, w64, rdn, rd0, tn, sc, Option.bind_some, ↓reduceIte, Bool.false_eq_true, Bool.true_eq_false]
      exact Ev.now _
    | true =>
      obtain ⟨v, hv, hv0, hv1, _⟩ := pick_ev b hb p1 3 (by omega) (by omega) (by omega)
      by_cases e0 : v = 0
      · refine ⟨[], p1 + 1, ?_, by omega, by omega, by simp⟩
        refine Ev.step (fun k => spec_l20Net.l0.eq_2 ..) ?_
        simp (disch := omega) only [if_pos, if_neg, w64, rdn, rd0, tn, sc, Option.bind_some, ↓reduceIte, Bool.false_eq_true, Bool.true_eq_false]
        refine Ev.bind hc ?_
        simp (disch := omega) only [if_pos, if_neg, w64, rdn, rd0, tn, sc, Option.bind_some, ↓reduceIte, Bool.false_eq_true, Bool.true_eq_false]
        refine Ev.bind hv ?_
        simp (disch := omega) only [if_pos, if_neg, w64, rdn, rd0, tn, sc, Option.bind_some, ↓reduceIte, Bool.false_eq_true, Bool.true_eq_false]
        exact Ev.now _
      · by_cases e1 : v = 1
        · refine ⟨x.set 0 (Go.bits .or .i64 (G x 0) 1), p1 + 1, ?_, by omega, by omega, by simp; omega⟩
          refine Ev.step (fun k => spec_l20Net.l0.eq_2 ..) ?_
          simp (disch := omega) only [if_pos, if_neg, w64, rdn, rd0, tn, sc, Option.bind_some, ↓reduceIte, Bool.false_eq_true, Bool.true_eq_false]
          refine Ev.bind hc ?_
          simp (disch := omega) only [if_pos, if_neg, w64, rdn, rd0, tn, sc, Option.bind_some, ↓reduceIte, Bool.false_eq_true, Bool.true_eq_false]
          refine Ev.bind hv ?_
          simp (disch := omega) only [if_pos, if_neg, w64, rdn, rd0, tn, sc, Option.bind_some, ↓reduceIte, Bool.false_eq_true, Bool.true_eq_false]
          exact Ev.now _
        · have hw : wrap64 ((nodes : Int) - 1) = (nodes : Int) - 1 := w64 (by omega) (by omega)
          by_cases e2 : nodes = 1
          · refine ⟨(x.set 0 (Go.bits .xor .i64 (G x 0) (shl .i64 1 ((nodes : Int) - 1)))).set 0 (-1), p1 + 1, ?_, by omega, by omega, by simp; omega⟩
            refine Ev.step (fun k => spec_l20Net.l0.eq_2 ..) ?_
            simp only [hw]
            simp (disch := omega) only [if_pos, if_neg, w64, rdn, rd0, tn, sc, Option.bind_some, ↓reduceIte, Bool.false_eq_true, Bool.true_eq_false]
            refine Ev.bind hc ?_
            simp (disch := omega) only [if_pos, if_neg, w64, rdn, rd0, tn, sc, Option.bind_some, ↓reduceIte, Bool.false_eq_true, Bool.true_eq_false]
            refine Ev.bind hv ?_
            simp (disch := omega) only [if_pos, if_neg, w64, rdn, rd0, tn, sc, Option.bind_some, ↓reduceIte, Bool.false_eq_true, Bool.true_eq_false]
            exact Ev.now _
          · refine ⟨x.set 0 (Go.bits .xor .i64 (G x 0) (shl .i64 1 ((nodes : Int) - 1))), p1 + 1, ?_, by omega, by omega, by simp; omega⟩
            refine Ev.step (fun k => spec_l20Net.l0.eq_2 ..) ?_
            simp only [hw]
            simp (disch := omega) only [if_pos, if_neg, w64, rdn, rd0, tn, sc, Option.bind_some, ↓reduceIte, Bool.false_eq_true, Bool.true_eq_false]
            refine Ev.bind hc ?_
            simp (disch := omega) only [if_pos, if_neg, w64, rdn, rd0, tn, sc, Option.bind_some, ↓reduceIte, Bool.false_eq_true, Bool.true_eq_false]
            refine Ev.bind hv ?_
            simp (disch := omega) only [if_pos, if_neg, w64, rdn, rd0, tn, sc, Option.bind_some, ↓reduceIte, Bool.false_eq_true, Bool.true_eq_false]
            exact Ev.now _
  | succ d ih =>
    intro x p hx hp hp2
    obtain ⟨v, hv, hv0, hv1, _⟩ := pick_ev b hb p (nodes : Int) hp (by omega) (by omega)
    obtain ⟨u, hu, hu0, hu1, _⟩ := pick_ev b hb (p + 1) (nodes : Int) (by omega) (by omega) (by omega)
    have hw : wrap64 (((d + 1 : Nat) : Int) - 1) = (d : Int) := by rw [w64 (by omega) (by omega)]; omega
    obtain ⟨i, rfl⟩ := Int.eq_ofNat_of_zero_le hv0
    obtain ⟨j, rfl⟩ := Int.eq_ofNat_of_zero_le hu0
    by_cases e : i = j
    · obtain ⟨r, p', hr, h2, h3, h4⟩ := ih x (p + 1 + 1) hx (by omega) (by omega)
      refine ⟨r, p', ?_, by omega, by omega, h4⟩
      refine Ev.step (fun k => spec_l20Net.l0.eq_2 ..) ?_
      simp only [hw]
      simp (disch := omega) only [if_pos, if_neg, w64, rdn, rd0, tn, sc, Option.bind_some, ↓reduceIte, Bool.false_eq_true, Bool.true_eq_false]
      refine Ev.bind hv ?_
      refine Ev.bind hu ?_
      simp (disch := omega) only [if_pos, if_neg, w64, rdn, rd0, tn, sc, Option.bind_some, ↓reduceIte, Bool.false_eq_true, Bool.true_eq_false]
      exact hr
    · obtain ⟨r, p', hr, h2, h3, h4⟩ := ih ((x.set i (Go.bits .or .i64 (G x i) (shl .i64 1 (j : Int)))).set j (Go.bits .or .i64 (G (x.set i (Go.bits .or .i64 (G x i) (shl .i64 1 (j : Int)))) j) (shl .i64 1 (i : Int)))) (p + 1 + 1) (by simp [hx]) (by omega) (by omega)
      refine ⟨r, p', ?_, by omega, by omega, h4⟩
      refine Ev.step (fun k => spec_l20Net.l0.eq_2 ..) ?_
      simp only [hw]
      simp (disch := omega) only [if_pos, if_neg, w64, rdn, rd0, tn, sc, Option.bind_some, ↓reduceIte, Bool.false_eq_true, Bool.true_eq_false]
      refine Ev.bind hv ?_
      refine Ev.bind hu ?_
      simp only [List.length_set]
      simp (disch := omega) only [if_pos, if_neg, w64, rdn, rd0, tn, sc, Option.bind_some, ↓reduceIte, Bool.false_eq_true, Bool.true_eq_false]
      exact hr
theorem l20Net_ev (b : List Int) (hb : RdOk b) (n p : Int) (hn : n ≤ 1000000) (hp : 0 ≤ p) (hp2 : p ≤ 9000) :
    ∃ r p', Ev (fun k => spec_l20Net.f k b p n) (r, p') ∧ p ≤ p' ∧ p' ≤ p + 20 ∧ r.length ≤ 6 := by
  obtain ⟨v, hv, hv0, hv1, _⟩ := pick_ev b hb p 6 hp (by omega) (by omega)
  obtain ⟨m, rfl⟩ := Int.eq_ofNat_of_zero_le hv0
  have hw : wrap64 (1 + (m : Int)) = ((1 + m : Nat) : Int) := by rw [w64 (by omega) (by omega)]; omega
  obtain ⟨x, hx, hxl⟩ := PathNet_ev (1 + m) (by omega) (by omega)
  obtain ⟨u, hu, hu0, hu1, _⟩ := pick_ev b hb (p + 1) 4 (by omega) (by omega) (by omega)
  have next : ∀ y : List Int, y.length = 1 + m → ∃ r p', Ev (fun k => spec_l20Net.j0 k n ((1 + m : Nat) : Int) y b (p + 1 + 1)) (r, p') ∧ p ≤ p' ∧ p' ≤ p + 20 ∧ r.length ≤ 6 := by
    intro y hy
    obtain ⟨t, ht, ht0, ht1, _⟩ := pick_ev b hb (p + 1 + 1) 6 (by omega) (by omega) (by omega)
    obtain ⟨q, rfl⟩ := Int.eq_ofNat_of_zero_le ht0
    obtain ⟨r, p', hr, h2, h3, h4⟩ := l20Net_l0 b hb n hn (1 + m) (by omega) (by omega) q y (p + 1 + 1 + 1) hy (by omega) (by omega)
    refine ⟨r, p', ?_, by omega, by omega, h4⟩
    refine Ev.step (fun k => spec_l20Net.j0.eq_2 ..) ?_
    refine Ev.bind ht ?_
    exact hr
  by_cases e0 : u = 0
  · by_cases e3 : 3 ≤ 1 + m
    · obtain ⟨y, hy, hyl⟩ := RingNet_ev (1 + m) e3 (by omega)
      obtain ⟨r, p', hr, h⟩ := next y hyl
      refine ⟨r, p', ?_, h⟩
      unfold spec_l20Net.f
      refine Ev.bind hv ?_
      simp only [hw]
      refine Ev.bind hx ?_
      refine Ev.bind hu ?_
      simp (disch := omega) only [if_pos, if_neg, w64, rdn, rd0, tn, sc, Option.bind_some, ↓reduceIte, Bool.false_eq_true, Bool.true_eq_false]
      refine Ev.bind hy ?_
      exact hr
    · obtain ⟨r, p', hr, h⟩ := next x hxl
      refine ⟨r, p', ?_, h⟩
      unfold spec_l20Net.f
      refine Ev.bind hv ?_
      simp only [hw]
      refine Ev.bind hx ?_
      refine Ev.bind hu ?_
      simp (disch := omega) only [if_pos, if_neg, w64, rdn, rd0, tn, sc, Option.bind_some, ↓reduceIte, Bool.false_eq_true, Bool.true_eq_false]
      exact hr
  · by_cases e1 : u = 1
    · obtain ⟨r, p', hr, h⟩ := next (List.replicate (1 + m) 0) (by simp)
      refine ⟨r, p', ?_, h⟩
      unfold spec_l20Net.f
      refine Ev.bind hv ?_
      simp only [hw]
      refine Ev.bind hx ?_
      refine Ev.bind hu ?_
      simp (disch := omega) only [if_pos, if_neg, w64, rdn, rd0, tn, sc, Option.bind_some, ↓reduceIte, Bool.false_eq_true, Bool.true_eq_false]
      exact hr
    · obtain ⟨r, p', hr, h⟩ := next x hxl
      refine ⟨r, p', ?_, h⟩
      unfold spec_l20Net.f
      refine Ev.bind hv ?_
      simp only [hw]
      refine Ev.bind hx ?_
      refine Ev.bind hu ?_
      simp (disch := omega) only [if_pos, if_neg, w64, rdn, rd0, tn, sc, Option.bind_some, ↓reduceIte, Bool.false_eq_true, Bool.true_eq_false]
      exact hr

theorem l20State_l0 (b : List Int) (hb : RdOk b) (nodes : Nat) (kinds n thin : Int) (h1 : 1 ≤ nodes) (h9 : nodes ≤ 100) (hk : 1 ≤ kinds) (hk' : kinds ≤ 1000) (hn : n ≤ 1000000) :
    ∀ (d : Nat) (i : Nat) (s : List Int) (p : Int), nodes - i = d → i ≤ nodes → s.length = i → (∀ j, 0 ≤ G s j ∧ G s j ≤ kinds) → 0 ≤ p → p ≤ 100000 - 2 * (nodes - i) →
      ∃ r p', Ev (fun k => spec_l20State.l0 k (nodes : Int) kinds n s thin (i : Int) b p) (r, p') ∧ p ≤ p' ∧ p' ≤ p + 2 * (nodes - i) + 2 ∧ (r.length = 0 ∨ r.length = nodes) ∧ (∀ j, 0 ≤ G r j ∧ G r j ≤ kinds) ∧ (n ≤ 0 → r.length = nodes) := by
  intro d
  induction d with
  | zero =>
    intro i s p hd hi hs hj hp hp2
    have hin : i = nodes := by omega
    obtain ⟨c, p1, hc, hc1, hc2, hc3⟩ := odd_ev b hb p n hp (by omega) hn
    cases c with
    | false =>
      refine ⟨s, p1, ?_, by omega, by omega, Or.inr (by omega), hj, fun _ => by omega⟩
      refine Ev.step (fun k => spec_l20State.l0.eq_2 ..) ?_
      simp (disch := omega) only [if_pos, if_neg, w64, rdn, rd0, tn, sc, Option.bind_some, ↓reduceIte, Bool.false_eq_true, Bool.true_eq_false]
      refine Ev.bind hc ?_
      simp (disch := omega) only [if_pos, if_neg, w64, rdn, rd0, tn, sc, Option.bind_some, ↓reduceIte, Bool.false_eq_true, Bool.true_eq_false]
      exact Ev.now _
    | true =>
      obtain ⟨v, hv, _⟩ := pick_ev b hb p1 2 (by omega) (by omega) (by omega)
      by_cases hv0 : v = 0
      · refine ⟨[], p1 + 1, ?_, by omega, by omega, Or.inl rfl, fun j => by simp [G]; omega, fun h => by have := hc3 h; simp at this⟩
        refine Ev.step (fun k => spec_l20State.l0.eq_2 ..) ?_
        simp (disch := omega) only [if_pos, if_neg, w64, rdn, rd0, tn, sc, Option.bind_some, ↓reduceIte, Bool.false_eq_true, Bool.true_eq_false]
        refine Ev.bind hc ?_
        simp (disch := omega) only [if_pos, if_neg, w64, rdn, rd0, tn, sc, Option.bind_some, ↓reduceIte, Bool.false_eq_true, Bool.true_eq_false]
        refine Ev.bind hv ?_
        simp (disch := omega) only [if_pos, if_neg, w64, rdn, rd0, tn, sc, Option.bind_some, ↓reduceIte, Bool.false_eq_true, Bool.true_eq_false]
        exact Ev.now _
      · refine ⟨s.set (nodes - 1) kinds, p1 + 1, ?_, by omega, by omega, Or.inr (by simp; omega), fun j => ?_, fun h => by have := hc3 h; simp at this⟩
        · have hw : wrap64 ((s.length : Int) - 1) = ((nodes - 1 : Nat) : Int) := by rw [w64 (by omega) (by omega)]; omega
          refine Ev.step (fun k => spec_l20State.l0.eq_2 ..) ?_
          simp only [hw]
          simp (disch := omega) only [if_pos, if_neg, w64, rdn, rd0, tn, sc, Option.bind_some, ↓reduceIte, Bool.false_eq_true, Bool.true_eq_false]
          refine Ev.bind hc ?_
          simp (disch := omega) only [if_pos, if_neg, w64, rdn, rd0, tn, sc, Option.bind_some, ↓reduceIte, Bool.false_eq_true, Bool.true_eq_false]
          refine Ev.bind hv ?_
          simp (disch := omega) only [if_pos, if_neg, w64, rdn, rd0, tn, sc, Option.bind_some, ↓reduceIte, Bool.false_eq_true, Bool.true_eq_false]
          exact Ev.now _
        · by_cases e : j = nodes - 1
          · subst e; rw [G_set_self _ (by omega)]; omega
          · rw [G_set_ne _ e]; exact hj j
  | succ d ih =>
    intro i s p hd hi hs hj hp hp2
    have next : ∀ v p1, 0 ≤ v → v ≤ kinds → p ≤ p1 → p1 ≤ p + 2 → ∃ r p', Ev (fun k => spec_l20State.l0 k (nodes : Int) kinds n (s ++ [v]) thin ((i + 1 : Nat) : Int) b p1) (r, p') ∧ p1 ≤ p' ∧ p' ≤ p1 + 2 * (nodes - (i + 1)) + 2 ∧ (r.length = 0 ∨ r.length = nodes) ∧ (∀ j, 0 ≤ G r j ∧ G r j ≤ kinds) ∧ (n ≤ 0 → r.length = nodes) := by
      intro v p1 hv hv' hp1 hp1'
      refine (ih (i + 1) (s ++ [v]) p1 (by omega) (by omega) (by simp [hs]) ?_ (by omega) (by omega))
      intro j
      by_cases e : j < i
      · rw [G_append_left (by omega)]; exact hj j
      · rw [G_append_right (by omega)]
        by_cases e2 : j - s.length = 0
        · rw [e2]; simp [G]; omega
        · rw [G_of_ge (by simp; omega)]; omega
    by_cases ht : thin > 0
    · obtain ⟨v, hv, hv0, hv1, _⟩ := pick_ev b hb p 3 hp (by omega) (by omega)
      by_cases hvt : v < thin
      · obtain ⟨r, p', hr, h2, h3, h4⟩ := next 0 (p + 1) (by omega) (by omega) (by omega) (by omega)
        refine ⟨r, p', ?_, by omega, by omega, h4⟩
        refine Ev.step (fun k => spec_l20State.l0.eq_2 ..) ?_
        simp (disch := omega) only [if_pos, if_neg, w64, rdn, rd0, tn, sc, Option.bind_some, ↓reduceIte, Bool.false_eq_true, Bool.true_eq_false]
        refine Ev.bind hv ?_
        simp (disch := omega) only [if_pos, if_neg, w64, rdn, rd0, tn, sc, Option.bind_some, ↓reduceIte, Bool.false_eq_true, Bool.true_eq_false]
        exact hr
      · obtain ⟨u, hu, hu0, hu1, _⟩ := pick_ev b hb (p + 1) kinds (by omega) (by omega) (by omega)
        obtain ⟨r, p', hr, h2, h3, h4⟩ := next u (p + 1 + 1) hu0 (by omega) (by omega) (by omega)
        refine ⟨r, p', ?_, by omega, by omega, h4⟩
        refine Ev.step (fun k => spec_l20State.l0.eq_2 ..) ?_
        simp (disch := omega) only [if_pos, if_neg, w64, rdn, rd0, tn, sc, Option.bind_some, ↓reduceIte, Bool.false_eq_true, Bool.true_eq_false]
        refine Ev.bind hv ?_
        simp (disch := omega) only [if_pos, if_neg, w64, rdn, rd0, tn, sc, Option.bind_some, ↓reduceIte, Bool.false_eq_true, Bool.true_eq_false]
        refine Ev.bind hu ?_
        simp (disch := omega) only [if_pos, if_neg, w64, rdn, rd0, tn, sc, Option.bind_some, ↓reduceIte, Bool.false_eq_true, Bool.true_eq_false]
        exact hr
    · obtain ⟨u, hu, hu0, hu1, _⟩ := pick_ev b hb p kinds (by omega) (by omega) (by omega)
      obtain ⟨r, p', hr, h2, h3, h4⟩ := next u (p + 1) hu0 (by omega) (by omega) (by omega)
      refine ⟨r, p', ?_, by omega, by omega, h4⟩
      refine Ev.step (fun k => spec_l20State.l0.eq_2 ..) ?_
      simp (disch := omega) only [if_pos, if_neg, w64, rdn, rd0, tn, sc, Option.bind_some, ↓reduceIte, Bool.false_eq_true, Bool.true_eq_false]
      refine Ev.bind hu ?_
      simp (disch := omega) only [if_pos, if_neg, w64, rdn, rd0, tn, sc, Option.bind_some, ↓reduceIte, Bool.false_eq_true, Bool.true_eq_false]
      exact hr
theorem l20State_ev (b : List Int) (hb : RdOk b) (nodes : Nat) (kinds n p : Int) (h1 : 1 ≤ nodes) (h9 : nodes ≤ 100) (hk : 1 ≤ kinds) (hk' : kinds ≤ 1000) (hn : n ≤ 1000000) (hp : 0 ≤ p) (hp2 : p ≤ 10000) :
    ∃ r p', Ev (fun k => spec_l20State.f k b p (nodes : Int) kinds n) (r, p') ∧ p ≤ p' ∧ p' ≤ p + 300 ∧ (r.length = 0 ∨ r.length = nodes) ∧ (∀ j, 0 ≤ G r j ∧ G r j ≤ kinds) ∧ (n ≤ 0 → r.length = nodes) := by
  obtain ⟨v, hv, hv0, hv1, _⟩ := pick_ev b hb p 3 hp (by omega) (by omega)
  obtain ⟨r, p', hr, h2, h3, h4⟩ := l20State_l0 b hb nodes kinds n v h1 h9 hk hk' hn _ 0 [] (p + 1) rfl (by omega) rfl (fun j => by simp [G]; omega) (by omega) (by omega)
  refine ⟨r, p', ?_, by omega, by omega, h4⟩
  unfold spec_l20State.f
  refine Ev.bind hv ?_
  exact hr

theorem l20Turn_ev (b : List Int) (hb : RdOk b) (n p : Int) (hn0 : 0 ≤ n) (hn : n ≤ 1000) (hp : 0 ≤ p) (hp2 : p ≤ 1000) :
    ∃ net s p', Ev (fun k => spec_l20Turn.f k b p n) (net, s, p') ∧ p ≤ p' ∧ p' ≤ p + 400 ∧ net.length ≤ 6 ∧ s.length ≤ 7 := by
  have hw : wrap64 (n * 2) = n * 2 := w64 (by omega) (by omega)
  obtain ⟨net, p1, h1, h1a, h1b, h1c⟩ := l20Net_ev b hb (n * 2) p (by omega) hp (by omega)
  obtain ⟨m, hm, hm1, hm6⟩ : ∃ m : Nat, mx (net.length : Int) 1 = (m : Int) ∧ 1 ≤ m ∧ m ≤ 6 := by
    unfold mx
    by_cases e : (net.length : Int) < 1
    · exact ⟨1, by rw [if_pos e]; rfl, by omega, by omega⟩
    · exact ⟨net.length, by rw [if_neg e], by omega, by omega⟩
  obtain ⟨s, p2, h2, h2a, h2b, h2c, _⟩ := l20State_ev b hb m 3 (n * 2) p1 hm1 (by omega) (by omega) (by omega) (by omega) (by omega) (by omega)
  obtain ⟨c, p3, h3, h3a, h3b, _⟩ := odd_ev b hb p2 (n * 2) (by omega) (by omega) (by omega)
  cases c with
  | true =>
    refine ⟨net, s ++ [0], p3, ?_, by omega, by omega, h1c, by simp; omega⟩
    unfold spec_l20Turn.f
    simp only [hw]
    refine Ev.bind h1 ?_
    simp only [hm]
    refine Ev.bind h2 ?_
    refine Ev.bind h3 ?_
    simp (disch := omega) only [if_pos, if_neg, w64, rdn, rd0, tn, sc, Option.bind_some, ↓reduceIte, Bool.false_eq_true, Bool.true_eq_false]
    exact Ev.now _
  | false =>
    refine ⟨net, s, p3, ?_, by omega, by omega, h1c, by omega⟩
    unfold spec_l20Turn.f
    simp only [hw]
    refine Ev.bind h1 ?_
    simp only [hm]
    refine Ev.bind h2 ?_
    refine Ev.bind h3 ?_
    simp (disch := omega) only [if_pos, if_neg, w64, rdn, rd0, tn, sc, Option.bind_some, ↓reduceIte, Bool.false_eq_true, Bool.true_eq_false]
    exact Ev.now _

theorem spec_NetOk_l2 (l : List Int) (h6 : l.length ≤ 6) (hr : ∀ j, j < l.length → 0 ≤ G l j ∧ G l j < 2 ^ l.length) (i : Nat) (hi : i < l.length) (r : Bool)
    (hbad : ∀ k, k < l.length → ¬ ((adj l i k ↔ adj l k i) ∧ ¬ (k = i ∧ adj l i i)) → r = false)
    (hgood : (∀ k, k < l.length → (adj l i k ↔ adj l k i)) → ¬ adj l i i → Ev (fun k => spec_NetOk.l1 k l ((i + 1 : Nat) : Int)) r) :
    ∀ (d : Nat) (j : Nat), l.length - j = d → j ≤ l.length → (∀ k, k < j → (adj l i k ↔ adj l k i) ∧ ¬ (k = i ∧ adj l i i)) →
      Ev (fun k => spec_NetOk.l2 k l (i : Int) (j : Int)) r := by
  intro d
  induction d with
  | zero =>
    intro j hd hj hk
    refine Ev.step (fun k => spec_NetOk.l2.eq_2 ..) ?_
    simp (disch := omega) only [if_pos, if_neg, w64, rdn, rd0, tn, sc, Option.bind_some, ↓reduceIte, Bool.false_eq_true, Bool.true_eq_false]
    exact hgood (fun k hkl => (hk k (by omega)).1) (fun h => (hk i (by omega)).2 ⟨rfl, h⟩)
  | succ d ih =>
    intro j hd hj hk
    refine Ev.step (fun k => spec_NetOk.l2.eq_2 ..) ?_
    have b1 := bit_mod (G l i) (j := j) (by omega) (hr i hi).1
    have b2 := bit_mod (G l j) (j := i) (by omega) (hr j (by omega)).1
    have m1 := Int.emod_two_eq (G l i / 2 ^ j)
    have m2 := Int.emod_two_eq (G l j / 2 ^ i)
    by_cases e : adj l i j ↔ adj l j i
    · have e' : G l i / 2 ^ j % 2 = G l j / 2 ^ i % 2 := by
        unfold adj at e
        by_cases c : G l i / 2 ^ j % 2 = 1
        · rw [c, e.1 c]
        · have c2 := fun h => c (e.2 h)
          omega
      simp only [rdn, b1, b2]
      by_cases eji : j = i
      · by_cases ea : G l i / 2 ^ j % 2 = 1
        · simp (disch := omega) only [if_pos, if_neg, w64, rdn, rd0, tn, sc, Option.bind_some, ↓reduceIte, Bool.false_eq_true, Bool.true_eq_false]
          refine Ev.val (hbad j (by omega) (fun h => h.2 ⟨eji, ?_⟩)).symm
          rw [eji] at ea; exact ea
        · simp (disch := omega) only [if_pos, if_neg, w64, rdn, rd0, tn, sc, Option.bind_some, ↓reduceIte, Bool.false_eq_true, Bool.true_eq_false]
          refine ih _ (by omega) (by omega) ?_
          intro k hkj
          by_cases e'' : k = j
          · subst e''; refine ⟨e, fun h => ea ?_⟩; have := h.2; rw [eji]; exact this
          · exact hk k (by omega)
      · simp (disch := omega) only [if_pos, if_neg, w64, rdn, rd0, tn, sc, Option.bind_some, ↓reduceIte, Bool.false_eq_true, Bool.true_eq_false]
        refine ih _ (by omega) (by omega) ?_
        intro k hkj
        by_cases e'' : k = j
        · subst e''; exact ⟨e, fun h => eji h.1⟩
        · exact hk k (by omega)
    · have e' : ¬ G l i / 2 ^ j % 2 = G l j / 2 ^ i % 2 := by
        intro h
        apply e
        unfold adj
        rw [h]
      simp only [rdn, b1, b2]
      simp (disch := omega) only [if_pos, if_neg, w64, rdn, rd0, tn, sc, Option.bind_some, ↓reduceIte, Bool.false_eq_true, Bool.true_eq_false]
      exact Ev.val (hbad j (by omega) (fun h => e h.1)).symm
theorem spec_NetOk_l1 (l : List Int) (h1 : 1 ≤ l.length) (h6 : l.length ≤ 6) (hr : ∀ j, j < l.length → 0 ≤ G l j ∧ G l j < 2 ^ l.length) : ∀ (d : Nat) (i : Nat), l.length - i = d → i ≤ l.length →
    (∀ j, j < i → (¬ adj l j j ∧ ∀ k, k < l.length → (adj l j k ↔ adj l k j))) → Ev (fun k => spec_NetOk.l1 k l (i : Int)) (decide (NetP l)) := by
  intro d
  induction d with
  | zero =>
    intro i hd hi hj
    refine Ev.step (fun k => spec_NetOk.l1.eq_2 ..) ?_
    simp (disch := omega) only [if_pos, if_neg, w64, rdn, rd0, tn, sc, Option.bind_some, ↓reduceIte, Bool.false_eq_true, Bool.true_eq_false]
    have : NetP l := ⟨h1, h6, fun j h => ⟨(hr j h).1, (hr j h).2, (hj j (by omega)).1, (hj j (by omega)).2⟩⟩
    exact Ev.val (by simp [this])
  | succ d ih =>
    intro i hd hi hj
    refine Ev.step (fun k => spec_NetOk.l1.eq_2 ..) ?_
    simp (disch := omega) only [if_pos, if_neg, w64, rdn, rd0, tn, sc, Option.bind_some, ↓reduceIte, Bool.false_eq_true, Bool.true_eq_false]
    refine spec_NetOk_l2 l h6 hr i (by omega) _ ?_ ?_ _ 0 rfl (by omega) (fun k h => by omega)
    · intro k hk hn
      have : ¬ NetP l := fun p => hn ⟨(p.2.2 i (by omega)).2.2.2 k hk, fun h => (p.2.2 i (by omega)).2.2.1 h.2⟩
      simp [this]
    · intro hall hirr
      refine ih _ (by omega) (by omega) ?_
      intro j hji
      by_cases e' : j = i
      · subst e'; exact ⟨hirr, hall⟩
      · exact hj j (by omega)
theorem spec_NetOk_l0 (l : List Int) (h1 : 1 ≤ l.length) (h6 : l.length ≤ 6) : ∀ (d : Nat) (i : Nat), l.length - i = d → i ≤ l.length →
    (∀ j, j < i → 0 ≤ G l j ∧ G l j < 2 ^ l.length) → Ev (fun k => spec_NetOk.l0 k l (i : Int)) (decide (NetP l)) := by
  intro d
  induction d with
  | zero =>
    intro i hd hi hj
    refine Ev.step (fun k => spec_NetOk.l0.eq_2 ..) ?_
    simp (disch := omega) only [if_pos, if_neg, w64, rdn, rd0, tn, sc, Option.bind_some, ↓reduceIte, Bool.false_eq_true, Bool.true_eq_false]
    exact spec_NetOk_l1 l h1 h6 (fun j h => hj j (by omega)) _ 0 rfl (by omega) (fun j h => by omega)
  | succ d ih =>
    intro i hd hi hj
    refine Ev.step (fun k => spec_NetOk.l0.eq_2 ..) ?_
    have hs := shl1 (n := l.length) (by omega)
    have hp := pow_lt63 (n := l.length) (by omega)
    have hq := pow_pos2 l.length
    have hw : wrap64 ((2 : Int) ^ l.length - 1) = 2 ^ l.length - 1 := w64 (by omega) (by omega)
    simp only [rdn, hs, hw, spec_l1In_eq, Option.bind_some]
    by_cases e : 0 ≤ G l i ∧ G l i ≤ 2 ^ l.length - 1
    · simp only [e, and_self, decide_true]
      simp (disch := omega) only [if_pos, if_neg, w64, rdn, rd0, tn, sc, Option.bind_some, ↓reduceIte, Bool.false_eq_true, Bool.true_eq_false]
      refine ih _ (by omega) (by omega) ?_
      intro j hji
      by_cases e' : j = i
      · subst e'; omega
      · exact hj j (by omega)
    · simp only [e, decide_false]
      simp (disch := omega) only [if_pos, if_neg, w64, rdn, rd0, tn, sc, Option.bind_some, ↓reduceIte, Bool.false_eq_true, Bool.true_eq_false]
      have : ¬ NetP l := fun p => e ⟨(p.2.2 i (by omega)).1, by have := (p.2.2 i (by omega)).2.1; omega⟩
      exact Ev.val (by simp [this])
theorem spec_NetOk_ev (l : List Int) (hl : l.length ≤ 1048576) : Ev (fun k => spec_NetOk.f k l) (decide (NetP l)) := by
  unfold spec_NetOk.f
  simp only [spec_l1In_eq, Option.bind_some]
  by_cases h : 1 ≤ l.length ∧ l.length ≤ 6
  · have h' : (1 : Int) ≤ (l.length : Int) ∧ (l.length : Int) ≤ 6 := by omega
    simp only [h', and_self, decide_true]
    simp (disch := omega) only [if_pos, if_neg, w64, rdn, rd0, tn, sc, Option.bind_some, ↓reduceIte, Bool.false_eq_true, Bool.true_eq_false]
    exact spec_NetOk_l0 l h.1 h.2 _ 0 rfl (by omega) (fun j h => by omega)
  · have h' : ¬ ((1 : Int) ≤ (l.length : Int) ∧ (l.length : Int) ≤ 6) := by omega
    simp only [h', decide_false]
    simp (disch := omega) only [if_pos, if_neg, w64, rdn, rd0, tn, sc, Option.bind_some, ↓reduceIte, Bool.false_eq_true, Bool.true_eq_false]
    have : ¬ NetP l := fun p => h ⟨p.1, p.2.1⟩
    exact Ev.val (by simp [this])

theorem spec_StateOk_l0 (a : Int) (l : List Int) (hl : l.length ≤ 1048576) : ∀ (d : Nat) (i : Nat), l.length - i = d → i ≤ l.length → (∀ j, j < i → 0 ≤ G l j ∧ G l j < a) → Ev (fun k => spec_StateOk.l0 k a l (i : Int)) (decide (StateP a l)) := by
  intro d
  induction d with
  | zero =>
    intro i hd hi hj
    refine Ev.step (fun k => spec_StateOk.l0.eq_2 ..) ?_
    simp only [spec_l1In_eq, Option.bind_some]
    obtain rfl : i = l.length := by omega
    by_cases h : 3 ≤ a ∧ a ≤ 5
    · simp only [h, and_self, decide_true]
      simp (disch := omega) only [if_pos, if_neg, w64, rdn, rd0, tn, sc, Option.bind_some, ↓reduceIte, Bool.false_eq_true, Bool.true_eq_false]
      refine Ev.val ?_
      rw [decide_eq_decide]
      unfold StateP
      constructor
      · intro e; exact ⟨h.1, h.2, by omega, by omega, hj⟩
      · intro e; have := e.2.2.1; have := e.2.2.2.1; omega
    · simp only [h, decide_false]
      simp (disch := omega) only [if_pos, if_neg, w64, rdn, rd0, tn, sc, Option.bind_some, ↓reduceIte, Bool.false_eq_true, Bool.true_eq_false]
      refine Ev.val ?_
      have : ¬ StateP a l := fun p => h ⟨p.1, p.2.1⟩
      simp [this]
  | succ d ih =>
    intro i hd hi hj
    refine Ev.step (fun k => spec_StateOk.l0.eq_2 ..) ?_
    by_cases e0 : G l i < 0
    · simp (disch := omega) only [if_pos, if_neg, w64, rdn, rd0, tn, sc, Option.bind_some, ↓reduceIte, Bool.false_eq_true, Bool.true_eq_false]
      refine Ev.val ?_
      have : ¬ StateP a l := fun p => by have := p.2.2.2.2 i (by omega); omega
      simp [this]
    · by_cases e1 : G l i ≥ a
      · simp (disch := omega) only [if_pos, if_neg, w64, rdn, rd0, tn, sc, Option.bind_some, ↓reduceIte, Bool.false_eq_true, Bool.true_eq_false]
        refine Ev.val ?_
        have : ¬ StateP a l := fun p => by have := p.2.2.2.2 i (by omega); omega
        simp [this]
      · simp (disch := omega) only [if_pos, if_neg, w64, rdn, rd0, tn, sc, Option.bind_some, ↓reduceIte, Bool.false_eq_true, Bool.true_eq_false]
        refine ih (i + 1) (by omega) (by omega) ?_
        intro j hji
        by_cases e' : j = i
        · subst e'; omega
        · exact hj j (by omega)
theorem spec_StateOk_ev (a : Int) (l : List Int) (hl : l.length ≤ 1048576) : Ev (fun k => spec_StateOk.f k a l) (decide (StateP a l)) := by
  unfold spec_StateOk.f
  exact spec_StateOk_l0 a l hl _ 0 rfl (by omega) (fun j h => by omega)

theorem spec_l3Ok_ev (net s : List Int) (kinds : Int) (hn : net.length ≤ 1048576) (hs : s.length ≤ 1048576) : Ev (fun k => spec_l3Ok.f k net kinds s) (decide (Asked net kinds s)) := by
  unfold spec_l3Ok.f
  refine Ev.bind (spec_NetOk_ev net hn) ?_
  by_cases h1 : NetP net
  · simp only [h1, decide_true]
    simp (disch := omega) only [if_pos, if_neg, w64, rdn, rd0, tn, sc, Option.bind_some, ↓reduceIte, Bool.false_eq_true, Bool.true_eq_false]
    refine Ev.bind (spec_StateOk_ev kinds s hs) ?_
    by_cases h2 : StateP kinds s
    · simp only [h2, decide_true]
      simp (disch := omega) only [if_pos, if_neg, w64, rdn, rd0, tn, sc, Option.bind_some, ↓reduceIte, Bool.false_eq_true, Bool.true_eq_false]
      refine Ev.val ?_
      rw [Bool.eq_iff_iff, beq_iff_eq, decide_eq_true_eq]
      unfold Asked
      constructor
      · intro h; exact ⟨h1, h2, by omega⟩
      · intro h; have := h.2.2; omega
    · simp only [h2, decide_false]
      simp (disch := omega) only [if_pos, if_neg, w64, rdn, rd0, tn, sc, Option.bind_some, ↓reduceIte, Bool.false_eq_true, Bool.true_eq_false]
      have : ¬ Asked net kinds s := fun h => h2 h.2.1
      exact Ev.val (by simp [this])
  · simp only [h1, decide_false]
    simp (disch := omega) only [if_pos, if_neg, w64, rdn, rd0, tn, sc, Option.bind_some, ↓reduceIte, Bool.false_eq_true, Bool.true_eq_false]
    have : ¬ Asked net kinds s := fun h => h1 h.1
    exact Ev.val (by simp [this])

-- needs Turn
theorem spec_l5Step_l1 (net s x : List Int) (h : Asked net 3 s) (i : Nat) (hi : i < s.length) (r : List Int) (hx : x.length = i)
    (hend : Ev (fun k => spec_l5Step.l0 k net s (x ++ [if Goes net s i then (G s i + 1) % 3 else G s i]) ((i + 1 : Nat) : Int)) r) :
    ∀ (d j : Nat), s.length - j = d → j ≤ s.length →
      Ev (fun k => spec_l5Step.l1 k net s x (i : Int) ((G s i + 1) % 3) (if GoesTo net s i j then (G s i + 1) % 3 else G s i) (j : Int)) r := by
  intro d
  have h6 := asked6 h
  have hl := h.2.2
  induction d with
  | zero =>
    intro j hd hj
    refine Ev.step (fun k => spec_l5Step.l1.eq_2 ..) ?_
    have e : (GoesTo net s i j) = (Goes net s i) := by unfold GoesTo Goes; rw [show j = s.length from by omega]
    simp only [e]
    simp (disch := omega) only [if_pos, if_neg, w64, rdn, rd0, tn, sc, Option.bind_some, ↓reduceIte, Bool.false_eq_true, Bool.true_eq_false]
    exact hend
  | succ d ih =>
    intro j hd hj
    refine Ev.step (fun k => spec_l5Step.l1.eq_2 ..) ?_
    have hb := bit_mod (G net i) (j := j) (by omega) (h.1.2.2 i (by omega)).1
    have hn := ih (j + 1) (by omega) (by omega)
    simp only [rdn, hb]
    clear hb
    by_cases e1 : G net i / 2 ^ j % 2 = 1
    · by_cases e2 : G s j = (G s i + 1) % 3
      · rw [if_pos (goesTo_succ.2 (Or.inr ⟨e1, e2⟩))] at hn
        simp (disch := omega) only [if_pos, if_neg, w64, rdn, rd0, tn, sc, Option.bind_some, ↓reduceIte, Bool.false_eq_true, Bool.true_eq_false]
        exact hn
      · have e3 : GoesTo net s i (j + 1) ↔ GoesTo net s i j := by rw [goesTo_succ]; simp [e2]
        simp only [e3] at hn
        simp (disch := omega) only [if_pos, if_neg, w64, rdn, rd0, tn, sc, Option.bind_some, ↓reduceIte, Bool.false_eq_true, Bool.true_eq_false]
        exact hn
    · have e3 : GoesTo net s i (j + 1) ↔ GoesTo net s i j := by rw [goesTo_succ]; simp [adj, e1]
      simp only [e3] at hn
      simp (disch := omega) only [if_pos, if_neg, w64, rdn, rd0, tn, sc, Option.bind_some, ↓reduceIte, Bool.false_eq_true, Bool.true_eq_false]
      exact hn
theorem spec_l5Step_l0 (net s : List Int) (h : Asked net 3 s) : ∀ (d i : Nat), s.length - i = d → i ≤ s.length →
    Ev (fun k => spec_l5Step.l0 k net s (mk i (fun i => if Goes net s i then (G s i + 1) % 3 else G s i)) (i : Int)) (turn net s) := by
  intro d
  have h6 := asked6 h
  induction d with
  | zero =>
    intro i hd hi
    refine Ev.step (fun k => spec_l5Step.l0.eq_2 ..) ?_
    have : i = s.length := by omega
    simp (disch := omega) only [if_pos, if_neg, w64, rdn, rd0, tn, sc, Option.bind_some, ↓reduceIte, Bool.false_eq_true, Bool.true_eq_false]
    exact Ev.val (by rw [this]; rfl)
  | succ d ih =>
    intro i hd hi
    refine Ev.step (fun k => spec_l5Step.l0.eq_2 ..) ?_
    have hn := ih (i + 1) (by omega) (by omega)
    rw [mk_succ] at hn
    have hb := h.2.1.2.2.2.2 i (by omega)
    have e1 : Int.tmod (wrap64 (G s i + 1)) 3 = (G s i + 1) % 3 := by rw [w64 (by omega) (by omega), tmod_nn (by omega)]
    simp only [rdn, e1]
    clear e1
    simp (disch := omega) only [if_pos, if_neg, w64, rdn, rd0, tn, sc, Option.bind_some, ↓reduceIte, Bool.false_eq_true, Bool.true_eq_false]
    have e0 : ¬ GoesTo net s i 0 := goesTo_zero
    have h1 := spec_l5Step_l1 net s _ h i (by omega) _ (mk_length _ _) hn _ 0 rfl (by omega)
    rw [if_neg e0] at h1
    exact h1
theorem spec_l5Step_ev (net s : List Int) (h : Asked net 3 s) : Ev (fun k => spec_l5Step.f k net s) (turn net s) := by
  unfold spec_l5Step.f
  exact spec_l5Step_l0 net s h _ 0 rfl (by omega)

theorem spec_TurnRun_l0 (net s : List Int) (h : Asked net 3 s) (t : Nat) (ht : t ≤ 60) : ∀ (d i : Nat), t - i = d → i ≤ t → Ev (fun k => spec_TurnRun.l0 k net (t : Int) (turnN net s i) (i : Int)) (turnN net s t) := by
  intro d
  induction d with
  | zero =>
    intro i hd hi
    refine Ev.step (fun k => spec_TurnRun.l0.eq_2 ..) ?_
    obtain rfl : i = t := by omega
    simp (disch := omega) only [if_pos, if_neg, w64, rdn, rd0, tn, sc, Option.bind_some, ↓reduceIte, Bool.false_eq_true, Bool.true_eq_false]
    exact Ev.now _
  | succ d ih =>
    intro i hd hi
    refine Ev.step (fun k => spec_TurnRun.l0.eq_2 ..) ?_
    simp (disch := omega) only [if_pos, if_neg, w64, rdn, rd0, tn, sc, Option.bind_some, ↓reduceIte, Bool.false_eq_true, Bool.true_eq_false]
    refine Ev.bind (spec_l5Step_ev net _ (turnN_ok h i)) ?_
    exact ih (i + 1) (by omega) (by omega)
theorem spec_TurnRun_ev (net s : List Int) (t : Int) (hn : net.length ≤ 1048576) (hs : s.length ≤ 1048576) : Ev (fun k => spec_TurnRun.f k net s t) (turnRun net s t) := by
  unfold spec_TurnRun.f
  refine Ev.bind (spec_l3Ok_ev net s 3 hn hs) ?_
  by_cases h : Asked net 3 s
  · simp only [h, decide_true, spec_l1In_eq, Option.bind_some]
    have h6 := asked6 h
    by_cases h' : 0 ≤ t ∧ t ≤ 60
    · obtain ⟨q, rfl⟩ := Int.eq_ofNat_of_zero_le h'.1
      rw [turnRun_yes h (by omega)]
      simp only [h', and_self, decide_true, Bool.not_true]
      simp (disch := omega) only [if_pos, if_neg, w64, rdn, rd0, tn, sc, Option.bind_some, ↓reduceIte, Bool.false_eq_true, Bool.true_eq_false]
      refine Ev.step (fun k => spec_TurnRun.j0.eq_2 ..) ?_
      have e : ([] : List Int).length = 0 := rfl
      simp only [e, List.nil_append, Option.bind_some]
      simp (disch := omega) only [if_pos, if_neg, w64, rdn, rd0, tn, sc, Option.bind_some, ↓reduceIte, Bool.false_eq_true, Bool.true_eq_false]
      exact spec_TurnRun_l0 net s h q (by omega) _ 0 rfl (by omega)
    · rw [turnRun_no (fun g => h' g.2)]
      simp only [h', decide_false, Bool.not_false]
      simp (disch := omega) only [if_pos, if_neg, w64, rdn, rd0, tn, sc, Option.bind_some, ↓reduceIte, Bool.false_eq_true, Bool.true_eq_false]
      refine Ev.step (fun k => spec_TurnRun.j0.eq_2 ..) ?_
      simp (disch := omega) only [if_pos, if_neg, w64, rdn, rd0, tn, sc, Option.bind_some, ↓reduceIte, Bool.false_eq_true, Bool.true_eq_false]
      exact Ev.now _
  · rw [turnRun_no (fun g => h g.1)]
    simp only [h, decide_false]
    simp (disch := omega) only [if_pos, if_neg, w64, rdn, rd0, tn, sc, Option.bind_some, ↓reduceIte, Bool.false_eq_true, Bool.true_eq_false]
    refine Ev.step (fun k => spec_TurnRun.j0.eq_2 ..) ?_
    simp (disch := omega) only [if_pos, if_neg, w64, rdn, rd0, tn, sc, Option.bind_some, ↓reduceIte, Bool.false_eq_true, Bool.true_eq_false]
    exact Ev.now _

theorem DrawStillOk_ev (l : List Int) (h : ∀ x ∈ l, (Lit.int .u8 x).wf = true) : ∃ net s, Ev (fun k => spec_DrawStillOk.f k l) (net, s) ∧ net.length ≤ 6 ∧ s.length ≤ 7 := by
  obtain ⟨b, hb, hR⟩ := spec_l20Open_eq l h
  obtain ⟨net, s, p, h1, hp1, hp2, h2, h3⟩ := l20Turn_ev b hR 12 0 (by omega) (by omega) (by omega) (by omega)
  obtain ⟨v, hv, _⟩ := pick_ev b hR p 2 (by omega) (by omega) (by omega)
  by_cases e : v = 0
  · by_cases hA : Asked net 3 s
    · refine ⟨net, turnRun net s 12, ?_, h2, by have := turnRun_length net s 12; omega⟩
      unfold spec_DrawStillOk.f
      rw [hb]
      simp only [Option.bind_some]
      refine Ev.bind h1 ?_
      refine Ev.bind hv ?_
      simp (disch := omega) only [if_pos, if_neg, w64, rdn, rd0, tn, sc, Option.bind_some, ↓reduceIte, Bool.false_eq_true, Bool.true_eq_false]
      refine Ev.bind (spec_l3Ok_ev net s 3 (by omega) (by omega)) ?_
      simp only [hA, decide_true]
      simp (disch := omega) only [if_pos, if_neg, w64, rdn, rd0, tn, sc, Option.bind_some, ↓reduceIte, Bool.false_eq_true, Bool.true_eq_false]
      refine Ev.bind (spec_TurnRun_ev net s 12 (by omega) (by omega)) ?_
      exact Ev.now _
    · refine ⟨net, s, ?_, h2, h3⟩
      unfold spec_DrawStillOk.f
      rw [hb]
      simp only [Option.bind_some]
      refine Ev.bind h1 ?_
      refine Ev.bind hv ?_
      simp (disch := omega) only [if_pos, if_neg, w64, rdn, rd0, tn, sc, Option.bind_some, ↓reduceIte, Bool.false_eq_true, Bool.true_eq_false]
      refine Ev.bind (spec_l3Ok_ev net s 3 (by omega) (by omega)) ?_
      simp only [hA, decide_false]
      simp (disch := omega) only [if_pos, if_neg, w64, rdn, rd0, tn, sc, Option.bind_some, ↓reduceIte, Bool.false_eq_true, Bool.true_eq_false]
      exact Ev.now _
  · refine ⟨net, s, ?_, h2, h3⟩
    unfold spec_DrawStillOk.f
    rw [hb]
    simp only [Option.bind_some]
    refine Ev.bind h1 ?_
    refine Ev.bind hv ?_
    simp (disch := omega) only [if_pos, if_neg, w64, rdn, rd0, tn, sc, Option.bind_some, ↓reduceIte, Bool.false_eq_true, Bool.true_eq_false]
    exact Ev.now _

theorem impl_StateOk_l0 (a : Int) (l : List Int) (hl : l.length ≤ 1048576) : ∀ (d : Nat) (i : Nat), l.length - i = d → i ≤ l.length → (∀ j, j < i → 0 ≤ G l j ∧ G l j < a) → Ev (fun k => impl_StateOk.l0 k a l l (l.length : Int) (i : Int)) (decide (StateP a l)) := by
  intro d
  induction d with
  | zero =>
    intro i hd hi hj
    refine Ev.step (fun k => impl_StateOk.l0.eq_2 ..) ?_
    obtain rfl : i = l.length := by omega
    by_cases h3 : 3 ≤ a
    · by_cases h5 : a ≤ 5
      · by_cases h1 : 1 ≤ l.length
        · simp (disch := omega) only [if_pos, if_neg, w64, rdn, rd0, tn, sc, Option.bind_some, ↓reduceIte, Bool.false_eq_true, Bool.true_eq_false]
          refine Ev.val ?_
          rw [decide_eq_decide]
          unfold StateP
          constructor
          · intro e; exact ⟨h3, h5, h1, by omega, hj⟩
          · intro e; have := e.2.2.2.1; omega
        · simp (disch := omega) only [if_pos, if_neg, w64, rdn, rd0, tn, sc, Option.bind_some, ↓reduceIte, Bool.false_eq_true, Bool.true_eq_false]
          refine Ev.val ?_
          have : ¬ StateP a l := fun p => h1 p.2.2.1
          simp [this]
      · simp (disch := omega) only [if_pos, if_neg, w64, rdn, rd0, tn, sc, Option.bind_some, ↓reduceIte, Bool.false_eq_true, Bool.true_eq_false]
        refine Ev.val ?_
        have : ¬ StateP a l := fun p => h5 p.2.1
        simp [this]
    · simp (disch := omega) only [if_pos, if_neg, w64, rdn, rd0, tn, sc, Option.bind_some, ↓reduceIte, Bool.false_eq_true, Bool.true_eq_false]
      refine Ev.val ?_
      have : ¬ StateP a l := fun p => h3 p.1
      simp [this]
  | succ d ih =>
    intro i hd hi hj
    refine Ev.step (fun k => impl_StateOk.l0.eq_2 ..) ?_
    by_cases e0 : G l i < 0
    · simp (disch := omega) only [if_pos, if_neg, w64, rdn, rd0, tn, sc, Option.bind_some, ↓reduceIte, Bool.false_eq_true, Bool.true_eq_false]
      refine Ev.val ?_
      have : ¬ StateP a l := fun p => by have := p.2.2.2.2 i (by omega); omega
      simp [this]
    · by_cases e1 : G l i ≥ a
      · simp (disch := omega) only [if_pos, if_neg, w64, rdn, rd0, tn, sc, Option.bind_some, ↓reduceIte, Bool.false_eq_true, Bool.true_eq_false]
        refine Ev.val ?_
        have : ¬ StateP a l := fun p => by have := p.2.2.2.2 i (by omega); omega
        simp [this]
      · simp (disch := omega) only [if_pos, if_neg, w64, rdn, rd0, tn, sc, Option.bind_some, ↓reduceIte, Bool.false_eq_true, Bool.true_eq_false]
        refine ih (i + 1) (by omega) (by omega) ?_
        intro j hji
        by_cases e' : j = i
        · subst e'; omega
        · exact hj j (by omega)
theorem impl_StateOk_ev (a : Int) (l : List Int) (hl : l.length ≤ 1048576) : Ev (fun k => impl_StateOk.f k a l) (decide (StateP a l)) := by
  unfold impl_StateOk.f
  exact impl_StateOk_l0 a l hl _ 0 rfl (by omega) (fun j h => by omega)

theorem impl_asked_ev (net s : List Int) (kinds : Int) (hn : net.length ≤ 1048576) (hs : s.length ≤ 1048576) : Ev (fun k => impl_asked.f k net kinds s) (decide (Asked net kinds s)) := by
  unfold impl_asked.f
  refine Ev.bind (impl_NetOk_ev net hn) ?_
  by_cases h1 : NetP net
  · simp only [h1, decide_true]
    simp (disch := omega) only [if_pos, if_neg, w64, rdn, rd0, tn, sc, Option.bind_some, ↓reduceIte, Bool.false_eq_true, Bool.true_eq_false]
    refine Ev.bind (impl_StateOk_ev kinds s hs) ?_
    by_cases h2 : StateP kinds s
    · simp only [h2, decide_true]
      simp (disch := omega) only [if_pos, if_neg, w64, rdn, rd0, tn, sc, Option.bind_some, ↓reduceIte, Bool.false_eq_true, Bool.true_eq_false]
      refine Ev.val ?_
      rw [Bool.eq_iff_iff, beq_iff_eq, decide_eq_true_eq]
      unfold Asked
      constructor
      · intro h; exact ⟨h1, h2, by omega⟩
      · intro h; have := h.2.2; omega
    · simp only [h2, decide_false]
      simp (disch := omega) only [if_pos, if_neg, w64, rdn, rd0, tn, sc, Option.bind_some, ↓reduceIte, Bool.false_eq_true, Bool.true_eq_false]
      have : ¬ Asked net kinds s := fun h => h2 h.2.1
      exact Ev.val (by simp [this])
  · simp only [h1, decide_false]
    simp (disch := omega) only [if_pos, if_neg, w64, rdn, rd0, tn, sc, Option.bind_some, ↓reduceIte, Bool.false_eq_true, Bool.true_eq_false]
    have : ¬ Asked net kinds s := fun h => h1 h.1
    exact Ev.val (by simp [this])

theorem slices_Equal_l0 (a b : List Int) (hl : a.length ≤ 1048576) (hab : a.length = b.length) : ∀ (d : Nat) (i : Nat), a.length - i = d → i ≤ a.length → (∀ j, j < i → G a j = G b j) → Ev (fun k => slices_Equal_int_int.l0 k a b (a.length : Int) (i : Int)) (decide (a = b)) := by
  intro d
  induction d with
  | zero =>
    intro i hd hi hj
    refine Ev.step (fun k => slices_Equal_int_int.l0.eq_2 ..) ?_
    simp (disch := omega) only [if_pos, if_neg, w64, rdn, rd0, tn, sc, Option.bind_some, ↓reduceIte, Bool.false_eq_true, Bool.true_eq_false]
    have e : a = b := ext hab (fun j h => hj j (by omega))
    exact Ev.val (by simp [e])
  | succ d ih =>
    intro i hd hi hj
    refine Ev.step (fun k => slices_Equal_int_int.l0.eq_2 ..) ?_
    by_cases e : G a i = G b i
    · simp (disch := omega) only [if_pos, if_neg, w64, rdn, rd0, tn, sc, Option.bind_some, ↓reduceIte, Bool.false_eq_true, Bool.true_eq_false]
      refine ih _ (by omega) (by omega) ?_
      intro j hji
      by_cases e' : j = i
      · subst e'; exact e
      · exact hj j (by omega)
    · simp (disch := omega) only [if_pos, if_neg, w64, rdn, rd0, tn, sc, Option.bind_some, ↓reduceIte, Bool.false_eq_true, Bool.true_eq_false]
      have : a ≠ b := fun h => e (by rw [h])
      exact Ev.val (by simp [this])
theorem slices_Equal_ev (a b : List Int) (hl : a.length ≤ 1048576) : Ev (fun k => slices_Equal_int_int.f k a b) (decide (a = b)) := by
  unfold slices_Equal_int_int.f
  by_cases hab : a.length = b.length
  · simp (disch := omega) only [if_pos, if_neg, w64, rdn, rd0, tn, sc, Option.bind_some, ↓reduceIte, Bool.false_eq_true, Bool.true_eq_false]
    exact slices_Equal_l0 a b hl hab _ 0 rfl (by omega) (fun j h => by omega)
  · simp (disch := omega) only [if_pos, if_neg, w64, rdn, rd0, tn, sc, Option.bind_some, ↓reduceIte, Bool.false_eq_true, Bool.true_eq_false]
    have : a ≠ b := fun h => hab (by rw [h])
    exact Ev.val (by simp [this])

theorem slices_Clone_eq (l : List Int) (h0 : 0 < l.length) (hl : l.length ≤ 1048576) : slices_Clone_int_int.f l = some l := by
  unfold slices_Clone_int_int.f
  have e : ([] : List Int).length = 0 := rfl
  simp only [Option.bind_some, e, List.nil_append]
  simp (disch := omega) only [if_pos, if_neg, w64, rdn, rd0, tn, sc, Option.bind_some, ↓reduceIte, Bool.false_eq_true, Bool.true_eq_false]

-- needs Turn
theorem impl_turnStep_l1 (net s : List Int) (h : Asked net 3 s) (i : Nat) (hi : i < s.length) (r : List Int)
    (hend : ∀ x : List Int, x.length = s.length → (∀ p, p < s.length → G x p = if p < i + 1 ∧ Goes net s p then (G s p + 1) % 3 else G s p) → Ev (fun k => impl_turnStep.l0 k net s x s (s.length : Int) ((i + 1 : Nat) : Int)) r) :
    ∀ (d j : Nat) (x : List Int), s.length - j = d → j ≤ s.length → x.length = s.length → (∀ p, p < s.length → p ≠ i → G x p = if p < i ∧ Goes net s p then (G s p + 1) % 3 else G s p) →
      G x i = (if GoesTo net s i j then (G s i + 1) % 3 else G s i) →
      Ev (fun k => impl_turnStep.l1 k net s x (i : Int) (G s i) s (s.length : Int) (i : Int) s (s.length : Int) (j : Int)) r := by
  intro d
  have h6 := asked6 h
  have hl := h.2.2
  induction d with
  | zero =>
    intro j x hd hj hx hp hi'
    refine Ev.step (fun k => impl_turnStep.l1.eq_2 ..) ?_
    simp (disch := omega) only [if_pos, if_neg, w64, rdn, rd0, tn, sc, Option.bind_some, ↓reduceIte, Bool.false_eq_true, Bool.true_eq_false]
    refine hend x hx (fun p hpl => ?_)
    by_cases e : p = i
    · subst e
      rw [hi', show j = s.length from by omega]
      by_cases g : Goes net s p
      · rw [if_pos (goesTo_all.2 g), if_pos ⟨by omega, g⟩]
      · rw [if_neg (fun hh => g (goesTo_all.1 hh)), if_neg (fun hh => g hh.2)]
    · rw [hp p hpl e]
      by_cases e2 : p < i
      · have : p < i + 1 := by omega
        simp only [e2, this]
      · have : ¬ p < i + 1 := by omega
        simp only [e2, this]
  | succ d ih =>
    intro j x hd hj hx hp hi'
    refine Ev.step (fun k => impl_turnStep.l1.eq_2 ..) ?_
    have hb := bit_and (G net i) (j := j) (by omega)
    have hbd := h.2.1.2.2.2.2 i (by omega)
    have e1 : Int.tmod (wrap64 (G s i + 1)) 3 = (G s i + 1) % 3 := by rw [w64 (by omega) (by omega), tmod_nn (by omega)]
    simp only [rdn, hb, e1]
    clear hb e1
    by_cases e1 : G net i / 2 ^ j % 2 = 1
    · by_cases e2 : G s j = (G s i + 1) % 3
      · simp (disch := omega) only [if_pos, if_neg, w64, rdn, rd0, tn, sc, Option.bind_some, ↓reduceIte, Bool.false_eq_true, Bool.true_eq_false]
        refine ih (j + 1) _ (by omega) (by omega) (by simp [hx]) ?_ ?_
        · intro p hpl hpi
          rw [G_set_ne _ hpi]; exact hp p hpl hpi
        · rw [G_set_self _ (by omega), if_pos (goesTo_succ.2 (Or.inr ⟨e1, e2⟩)), e2]
      · have e3 : GoesTo net s i (j + 1) ↔ GoesTo net s i j := by rw [goesTo_succ]; simp [e2]
        simp (disch := omega) only [if_pos, if_neg, w64, rdn, rd0, tn, sc, Option.bind_some, ↓reduceIte, Bool.false_eq_true, Bool.true_eq_false]
        refine ih (j + 1) _ (by omega) (by omega) hx hp ?_
        rw [hi']; simp only [e3]
    · have e3 : GoesTo net s i (j + 1) ↔ GoesTo net s i j := by rw [goesTo_succ]; simp [adj, e1]
      simp (disch := omega) only [if_pos, if_neg, w64, rdn, rd0, tn, sc, Option.bind_some, ↓reduceIte, Bool.false_eq_true, Bool.true_eq_false]
      refine ih (j + 1) _ (by omega) (by omega) hx hp ?_
      rw [hi']; simp only [e3]
theorem impl_turnStep_l0 (net s : List Int) (h : Asked net 3 s) : ∀ (d i : Nat) (x : List Int), s.length - i = d → i ≤ s.length → x.length = s.length →
    (∀ p, p < s.length → G x p = if p < i ∧ Goes net s p then (G s p + 1) % 3 else G s p) →
    Ev (fun k => impl_turnStep.l0 k net s x s (s.length : Int) (i : Int)) (turn net s) := by
  intro d
  have h6 := asked6 h
  induction d with
  | zero =>
    intro i x hd hi hx hp
    refine Ev.step (fun k => impl_turnStep.l0.eq_2 ..) ?_
    have : i = s.length := by omega
    simp (disch := omega) only [if_pos, if_neg, w64, rdn, rd0, tn, sc, Option.bind_some, ↓reduceIte, Bool.false_eq_true, Bool.true_eq_false]
    refine Ev.val (mk_eq_iff.2 ⟨hx, fun p hpl => ?_⟩)
    rw [hp p hpl]
    have : p < i := by omega
    simp only [this, true_and]
  | succ d ih =>
    intro i x hd hi hx hp
    refine Ev.step (fun k => impl_turnStep.l0.eq_2 ..) ?_
    simp (disch := omega) only [if_pos, if_neg, w64, rdn, rd0, tn, sc, Option.bind_some, ↓reduceIte, Bool.false_eq_true, Bool.true_eq_false]
    refine impl_turnStep_l1 net s h i (by omega) _ (fun y hy hq => ih (i + 1) y (by omega) (by omega) hy hq) _ 0 x rfl (by omega) hx (fun p hpl _ => hp p hpl) ?_
    rw [hp i (by omega), if_neg (by omega), if_neg goesTo_zero]
theorem impl_turnStep_ev (net s : List Int) (h : Asked net 3 s) : Ev (fun k => impl_turnStep.f k net s) (turn net s) := by
  unfold impl_turnStep.f
  have h6 := asked6 h
  have h1 := asked1 h
  rw [slices_Clone_eq s (by omega) (by omega)]
  simp only [Option.bind_some]
  exact impl_turnStep_l0 net s h _ 0 s rfl (by omega) rfl (fun p _ => by rw [if_neg (by omega)])

theorem impl_StillOk_ev (net s : List Int) (hn : net.length ≤ 1048576) (hs : s.length ≤ 1048576) : Ev (fun k => impl_StillOk.f k net s) (stillOk net s) := by
  unfold impl_StillOk.f
  refine Ev.bind (impl_asked_ev net s 3 hn hs) ?_
  by_cases h : Asked net 3 s
  · simp only [h, decide_true]
    simp (disch := omega) only [if_pos, if_neg, w64, rdn, rd0, tn, sc, Option.bind_some, ↓reduceIte, Bool.false_eq_true, Bool.true_eq_false]
    refine Ev.bind (impl_turnStep_ev net s h) ?_
    refine Ev.bind (slices_Equal_ev _ _ (by rw [turn_length]; omega)) ?_
    exact Ev.val (by simp [stillOk, h])
  · simp only [h, decide_false]
    simp (disch := omega) only [if_pos, if_neg, w64, rdn, rd0, tn, sc, Option.bind_some, ↓reduceIte, Bool.false_eq_true, Bool.true_eq_false]
    exact Ev.val (by simp [stillOk, h])

theorem spec_l3Same_l0 (a b : List Int) (hl : a.length ≤ 1048576) (hab : a.length = b.length) : ∀ (d : Nat) (i : Nat), a.length - i = d → i ≤ a.length → (∀ j, j < i → G a j = G b j) → Ev (fun k => spec_l3Same.l0 k a b (i : Int)) (decide (a = b)) := by
  intro d
  induction d with
  | zero =>
    intro i hd hi hj
    refine Ev.step (fun k => spec_l3Same.l0.eq_2 ..) ?_
    simp (disch := omega) only [if_pos, if_neg, w64, rdn, rd0, tn, sc, Option.bind_some, ↓reduceIte, Bool.false_eq_true, Bool.true_eq_false]
    have e : a = b := ext hab (fun j h => hj j (by omega))
    exact Ev.val (by simp [e])
  | succ d ih =>
    intro i hd hi hj
    refine Ev.step (fun k => spec_l3Same.l0.eq_2 ..) ?_
    by_cases e : G a i = G b i
    · simp (disch := omega) only [if_pos, if_neg, w64, rdn, rd0, tn, sc, Option.bind_some, ↓reduceIte, Bool.false_eq_true, Bool.true_eq_false]
      refine ih _ (by omega) (by omega) ?_
      intro j hji
      by_cases e' : j = i
      · subst e'; exact e
      · exact hj j (by omega)
    · simp (disch := omega) only [if_pos, if_neg, w64, rdn, rd0, tn, sc, Option.bind_some, ↓reduceIte, Bool.false_eq_true, Bool.true_eq_false]
      have : a ≠ b := fun h => e (by rw [h])
      exact Ev.val (by simp [this])
theorem spec_l3Same_ev (a b : List Int) (hl : a.length ≤ 1048576) (hab : a.length = b.length) : Ev (fun k => spec_l3Same.f k a b) (decide (a = b)) := by
  unfold spec_l3Same.f
  exact spec_l3Same_l0 a b hl hab _ 0 rfl (by omega) (fun j h => by omega)

/-- Whether all stays in a turn. -/
theorem spec_StillOk_ev (net s : List Int) (hn : net.length ≤ 1048576) (hs : s.length ≤ 1048576) : Ev (fun k => spec_StillOk.f k net s) (stillOk net s) := by
  unfold spec_StillOk.f
  refine Ev.bind (spec_l3Ok_ev net s 3 hn hs) ?_
  by_cases h : Asked net 3 s
  · simp only [h, decide_true]
    simp (disch := omega) only [if_pos, if_neg, w64, rdn, rd0, tn, sc, Option.bind_some, ↓reduceIte, Bool.false_eq_true, Bool.true_eq_false]
    refine Ev.bind (spec_l5Step_ev net s h) ?_
    refine Ev.bind (spec_l3Same_ev _ _ (by rw [turn_length]; omega) (turn_length _ _)) ?_
    exact Ev.val (by simp [stillOk, h])
  · simp only [h, decide_false]
    simp (disch := omega) only [if_pos, if_neg, w64, rdn, rd0, tn, sc, Option.bind_some, ↓reduceIte, Bool.false_eq_true, Bool.true_eq_false]
    exact Ev.val (by simp [stillOk, h])

theorem impl_TurnedRow_l1 (net s : List Int) (h : Asked net 3 s) (t i : Nat) (r : List Int) (hi : i < 60)
    (hend : Ev (fun k => impl_TurnedRow.l0 k net (turnN net s (i + 1)) (mk s.length (turnedN net s (i + 1))) (t : Int) ((i + 1 : Nat) : Int)) r) :
    ∀ (d j : Nat) (x : List Int), s.length - j = d → j ≤ s.length → x.length = s.length → (∀ p, p < s.length → G x p = if p < j then turnedN net s (i + 1) p else turnedN net s i p) →
      Ev (fun k => impl_TurnedRow.l1 k net (turnN net s i) x (turnN net s (i + 1)) (t : Int) (i : Int) (s.length : Int) (j : Int)) r := by
  intro d
  have h6 := asked6 h
  have l1 := turnN_length net s i
  have l2 := turnN_length net s (i + 1)
  induction d with
  | zero =>
    intro j x hd hj hx hp
    refine Ev.step (fun k => impl_TurnedRow.l1.eq_2 ..) ?_
    simp (disch := omega) only [if_pos, if_neg, w64, rdn, rd0, tn, sc, Option.bind_some, ↓reduceIte, Bool.false_eq_true, Bool.true_eq_false]
    have e : x = mk s.length (turnedN net s (i + 1)) := mk_eq_iff.2 ⟨hx, fun p hpl => by rw [hp p hpl, if_pos (by omega)]⟩
    rw [e]; exact hend
  | succ d ih =>
    intro j x hd hj hx hp
    refine Ev.step (fun k => impl_TurnedRow.l1.eq_2 ..) ?_
    have hne := turn_ne (turnN_ok h i) (i := j) (by rw [turnN_length]; omega)
    have hs := turnedN_succ net s i j
    have hb := turnedN_bd net s i j
    have hxj : G x j = turnedN net s i j := by rw [hp j (by omega), if_neg (by omega)]
    by_cases e : G (turnN net s (i + 1)) j = G (turnN net s i) j
    · have hw : went net (turnN net s i) j = 0 := if_neg (hne.1 e)
      simp (disch := omega) only [if_pos, if_neg, w64, rdn, rd0, tn, sc, Option.bind_some, ↓reduceIte, Bool.false_eq_true, Bool.true_eq_false]
      refine ih (j + 1) x (by omega) (by omega) hx (fun p hpl => ?_)
      rw [hp p hpl]
      by_cases e2 : p = j
      · subst e2; rw [if_neg (by omega), if_pos (by omega)]; omega
      · by_cases e3 : p < j
        · rw [if_pos e3, if_pos (by omega)]
        · rw [if_neg e3, if_neg (by omega)]
    · have hw : went net (turnN net s i) j = 1 := by
        unfold went; rw [if_pos]
        exact Decidable.byContradiction (fun g => e (hne.2 g))
      simp only [rdn, tn, hxj]
      clear hxj hne
      simp (disch := omega) only [if_pos, if_neg, w64, rdn, rd0, tn, sc, Option.bind_some, ↓reduceIte, Bool.false_eq_true, Bool.true_eq_false]
      refine ih (j + 1) _ (by omega) (by omega) (by simp [hx]) (fun p hpl => ?_)
      by_cases e2 : p = j
      · subst e2; rw [G_set_self _ (by omega), if_pos (by omega)]; omega
      · rw [G_set_ne _ e2, hp p hpl]
        by_cases e3 : p < j
        · rw [if_pos e3, if_pos (by omega)]
        · rw [if_neg e3, if_neg (by omega)]
theorem impl_TurnedRow_l0 (net s : List Int) (h : Asked net 3 s) (t : Nat) (ht : t ≤ 60) : ∀ (d i : Nat), t - i = d → i ≤ t → Ev (fun k => impl_TurnedRow.l0 k net (turnN net s i) (mk s.length (turnedN net s i)) (t : Int) (i : Int)) (mk s.length (turnedN net s t)) := by
  intro d
  induction d with
  | zero =>
    intro i hd hi
    refine Ev.step (fun k => impl_TurnedRow.l0.eq_2 ..) ?_
    obtain rfl : i = t := by omega
    simp (disch := omega) only [if_pos, if_neg, w64, rdn, rd0, tn, sc, Option.bind_some, ↓reduceIte, Bool.false_eq_true, Bool.true_eq_false]
    exact Ev.now _
  | succ d ih =>
    intro i hd hi
    refine Ev.step (fun k => impl_TurnedRow.l0.eq_2 ..) ?_
    simp (disch := omega) only [if_pos, if_neg, w64, rdn, rd0, tn, sc, Option.bind_some, ↓reduceIte, Bool.false_eq_true, Bool.true_eq_false]
    refine Ev.bind (impl_turnStep_ev net _ (turnN_ok h i)) ?_
    simp only [mk_length]
    exact impl_TurnedRow_l1 net s h t i _ (by omega) (ih (i + 1) (by omega) (by omega)) _ 0 _ rfl (by omega) (mk_length _ _) (fun p hp => by rw [G_mk _ hp, if_neg (by omega)])
theorem impl_TurnedRow_ev (net s : List Int) (t : Int) (hn : net.length ≤ 1048576) (hs : s.length ≤ 1048576) : Ev (fun k => impl_TurnedRow.f k net s t) (turnedRow net s t) := by
  unfold impl_TurnedRow.f
  refine Ev.bind (impl_asked_ev net s 3 hn hs) ?_
  by_cases h : Asked net 3 s
  · simp only [h, decide_true]
    have h6 := asked6 h
    have hl := h.2.2
    by_cases h0 : t < 0
    · rw [turnedRow_no (by omega)]
      simp (disch := omega) only [if_pos, if_neg, w64, rdn, rd0, tn, sc, Option.bind_some, ↓reduceIte, Bool.false_eq_true, Bool.true_eq_false]
      refine Ev.step (fun k => impl_TurnedRow.j0.eq_2 ..) ?_
      simp (disch := omega) only [if_pos, if_neg, w64, rdn, rd0, tn, sc, Option.bind_some, ↓reduceIte, Bool.false_eq_true, Bool.true_eq_false]
      exact Ev.now _
    · by_cases h2 : t > 60
      · have e : decide (t > 60) = true := by simp; omega
        rw [turnedRow_no (by omega)]
        simp only [e]
        simp (disch := omega) only [if_pos, if_neg, w64, rdn, rd0, tn, sc, Option.bind_some, ↓reduceIte, Bool.false_eq_true, Bool.true_eq_false]
        refine Ev.step (fun k => impl_TurnedRow.j0.eq_2 ..) ?_
        simp (disch := omega) only [if_pos, if_neg, w64, rdn, rd0, tn, sc, Option.bind_some, ↓reduceIte, Bool.false_eq_true, Bool.true_eq_false]
        exact Ev.now _
      · have e : decide (t > 60) = false := by simp; omega
        obtain ⟨q, rfl⟩ := Int.eq_ofNat_of_zero_le (show 0 ≤ t by omega)
        rw [turnedRow_yes h (by omega)]
        simp only [e]
        simp (disch := omega) only [if_pos, if_neg, w64, rdn, rd0, tn, sc, Option.bind_some, ↓reduceIte, Bool.false_eq_true, Bool.true_eq_false]
        refine Ev.step (fun k => impl_TurnedRow.j0.eq_2 ..) ?_
        simp (disch := omega) only [if_pos, if_neg, w64, rdn, rd0, tn, sc, Option.bind_some, ↓reduceIte, Bool.false_eq_true, Bool.true_eq_false]
        rw [replicate_mk, hl]
        exact impl_TurnedRow_l0 net s h q (by omega) _ 0 rfl (by omega)
  · rw [turnedRow_no (fun g => h g.1)]
    simp only [h, decide_false]
    simp (disch := omega) only [if_pos, if_neg, w64, rdn, rd0, tn, sc, Option.bind_some, ↓reduceIte, Bool.false_eq_true, Bool.true_eq_false]
    refine Ev.step (fun k => impl_TurnedRow.j0.eq_2 ..) ?_
    simp (disch := omega) only [if_pos, if_neg, w64, rdn, rd0, tn, sc, Option.bind_some, ↓reduceIte, Bool.false_eq_true, Bool.true_eq_false]
    exact Ev.now _

theorem laws_sameInts_l0 (a b : List Int) (hl : a.length ≤ 1048576) (hab : a.length = b.length) : ∀ (d : Nat) (i : Nat), a.length - i = d → i ≤ a.length → (∀ j, j < i → G a j = G b j) → Ev (fun k => laws_sameInts.l0 k a b (i : Int)) (decide (a = b)) := by
  intro d
  induction d with
  | zero =>
    intro i hd hi hj
    refine Ev.step (fun k => laws_sameInts.l0.eq_2 ..) ?_
    simp (disch := omega) only [if_pos, if_neg, w64, rdn, rd0, tn, sc, Option.bind_some, ↓reduceIte, Bool.false_eq_true, Bool.true_eq_false]
    have e : a = b := ext hab (fun j h => hj j (by omega))
    exact Ev.val (by simp [e])
  | succ d ih =>
    intro i hd hi hj
    refine Ev.step (fun k => laws_sameInts.l0.eq_2 ..) ?_
    by_cases e : G a i = G b i
    · simp (disch := omega) only [if_pos, if_neg, w64, rdn, rd0, tn, sc, Option.bind_some, ↓reduceIte, Bool.false_eq_true, Bool.true_eq_false]
      refine ih _ (by omega) (by omega) ?_
      intro j hji
      by_cases e' : j = i
      · subst e'; exact e
      · exact hj j (by omega)
    · simp (disch := omega) only [if_pos, if_neg, w64, rdn, rd0, tn, sc, Option.bind_some, ↓reduceIte, Bool.false_eq_true, Bool.true_eq_false]
      have : a ≠ b := fun h => e (by rw [h])
      exact Ev.val (by simp [this])
theorem laws_sameInts_ev (a b : List Int) (hl : a.length ≤ 1048576) : Ev (fun k => laws_sameInts.f k a b) (decide (a = b)) := by
  unfold laws_sameInts.f
  by_cases hab : a.length = b.length
  · simp (disch := omega) only [if_pos, if_neg, w64, rdn, rd0, tn, sc, Option.bind_some, ↓reduceIte, Bool.false_eq_true, Bool.true_eq_false]
    exact laws_sameInts_l0 a b hl hab _ 0 rfl (by omega) (fun j h => by omega)
  · simp (disch := omega) only [if_pos, if_neg, w64, rdn, rd0, tn, sc, Option.bind_some, ↓reduceIte, Bool.false_eq_true, Bool.true_eq_false]
    have : a ≠ b := fun h => hab (by rw [h])
    exact Ev.val (by simp [this])
theorem laws_sameInts_self (a : List Int) (hl : a.length ≤ 1048576) : Ev (fun k => laws_sameInts.f k a a) true := by
  have h := laws_sameInts_ev a a hl
  simpa using h

theorem impl_TurnRun_l0 (net s : List Int) (h : Asked net 3 s) (t : Nat) (ht : t ≤ 60) : ∀ (d i : Nat), t - i = d → i ≤ t → Ev (fun k => impl_TurnRun.l0 k net (turnN net s i) (t : Int) (i : Int)) (turnN net s t) := by
  intro d
  induction d with
  | zero =>
    intro i hd hi
    refine Ev.step (fun k => impl_TurnRun.l0.eq_2 ..) ?_
    obtain rfl : i = t := by omega
    simp (disch := omega) only [if_pos, if_neg, w64, rdn, rd0, tn, sc, Option.bind_some, ↓reduceIte, Bool.false_eq_true, Bool.true_eq_false]
    exact Ev.now _
  | succ d ih =>
    intro i hd hi
    refine Ev.step (fun k => impl_TurnRun.l0.eq_2 ..) ?_
    simp (disch := omega) only [if_pos, if_neg, w64, rdn, rd0, tn, sc, Option.bind_some, ↓reduceIte, Bool.false_eq_true, Bool.true_eq_false]
    refine Ev.bind (impl_turnStep_ev net _ (turnN_ok h i)) ?_
    exact ih (i + 1) (by omega) (by omega)
theorem impl_TurnRun_ev (net s : List Int) (t : Int) (hn : net.length ≤ 1048576) (hs : s.length ≤ 1048576) : Ev (fun k => impl_TurnRun.f k net s t) (turnRun net s t) := by
  unfold impl_TurnRun.f
  refine Ev.bind (impl_asked_ev net s 3 hn hs) ?_
  by_cases h : Asked net 3 s
  · simp only [h, decide_true]
    have h6 := asked6 h
    have h1 := asked1 h
    by_cases h0 : t < 0
    · rw [turnRun_no (by omega)]
      simp (disch := omega) only [if_pos, if_neg, w64, rdn, rd0, tn, sc, Option.bind_some, ↓reduceIte, Bool.false_eq_true, Bool.true_eq_false]
      refine Ev.step (fun k => impl_TurnRun.j0.eq_2 ..) ?_
      simp (disch := omega) only [if_pos, if_neg, w64, rdn, rd0, tn, sc, Option.bind_some, ↓reduceIte, Bool.false_eq_true, Bool.true_eq_false]
      exact Ev.now _
    · by_cases h2 : t > 60
      · have e : decide (t > 60) = true := by simp; omega
        rw [turnRun_no (by omega)]
        simp only [e]
        simp (disch := omega) only [if_pos, if_neg, w64, rdn, rd0, tn, sc, Option.bind_some, ↓reduceIte, Bool.false_eq_true, Bool.true_eq_false]
        refine Ev.step (fun k => impl_TurnRun.j0.eq_2 ..) ?_
        simp (disch := omega) only [if_pos, if_neg, w64, rdn, rd0, tn, sc, Option.bind_some, ↓reduceIte, Bool.false_eq_true, Bool.true_eq_false]
        exact Ev.now _
      · have e : decide (t > 60) = false := by simp; omega
        obtain ⟨q, rfl⟩ := Int.eq_ofNat_of_zero_le (show 0 ≤ t by omega)
        rw [turnRun_yes h (by omega)]
        simp only [e]
        simp (disch := omega) only [if_pos, if_neg, w64, rdn, rd0, tn, sc, Option.bind_some, ↓reduceIte, Bool.false_eq_true, Bool.true_eq_false]
        refine Ev.step (fun k => impl_TurnRun.j0.eq_2 ..) ?_
        rw [slices_Clone_eq s (by omega) (by omega)]
        simp (disch := omega) only [if_pos, if_neg, w64, rdn, rd0, tn, sc, Option.bind_some, ↓reduceIte, Bool.false_eq_true, Bool.true_eq_false]
        exact impl_TurnRun_l0 net s h q (by omega) _ 0 rfl (by omega)
  · rw [turnRun_no (fun g => h g.1)]
    simp only [h, decide_false]
    simp (disch := omega) only [if_pos, if_neg, w64, rdn, rd0, tn, sc, Option.bind_some, ↓reduceIte, Bool.false_eq_true, Bool.true_eq_false]
    refine Ev.step (fun k => impl_TurnRun.j0.eq_2 ..) ?_
    simp (disch := omega) only [if_pos, if_neg, w64, rdn, rd0, tn, sc, Option.bind_some, ↓reduceIte, Bool.false_eq_true, Bool.true_eq_false]
    exact Ev.now _

-- needs Turn
theorem still_run {net s : List Int} (h : turn net s = s) : ∀ t, turnN net s t = s
  | 0 => rfl
  | t + 1 => by rw [turnN, still_run h t, h]
theorem FnStillOk_l0 (net s row : List Int) (c0 : Bool) (hn : net.length ≤ 6) (hs : s.length ≤ 7) (hrow : row.length ≤ 7) (hc : (stillOk net s = true) ↔ (c0 = true ∧ ∀ j, j < row.length → G row j = 0)) : ∀ (d i : Nat) (c : Bool), i + d = row.length →
    (c = true ↔ (c0 = true ∧ ∀ j, j < i → G row j = 0)) →
    Ev (fun k => laws_FnStillOk.l0 k net s (stillOk net s) row c (i : Int)) true := by
  intro d
  induction d with
  | zero =>
    intro i c hd hci
    refine Ev.step (fun k => laws_FnStillOk.l0.eq_2 ..) ?_
    have hcs : c = stillOk net s := by
      rw [Bool.eq_iff_iff, hci, hc, show i = row.length from by omega]
    subst hcs
    by_cases e : stillOk net s = true
    · have hA : Asked net 3 s ∧ turn net s = s := by unfold stillOk at e; simpa using e
      simp only [e, beq_self_eq_true]
      simp (disch := omega) only [if_pos, if_neg, w64, rdn, rd0, tn, sc, Option.bind_some, ↓reduceIte, Bool.false_eq_true, Bool.true_eq_false]
      refine Ev.bind (impl_TurnRun_ev net s 20 (by omega) (by omega)) ?_
      have e2 : turnRun net s 20 = s := by rw [show (20 : Int) = ((20 : Nat) : Int) from rfl, turnRun_yes hA.1 (by omega), still_run hA.2]
      rw [e2]
      refine Ev.bind (laws_sameInts_self _ (by omega)) ?_
      simp (disch := omega) only [if_pos, if_neg, w64, rdn, rd0, tn, sc, Option.bind_some, ↓reduceIte, Bool.false_eq_true, Bool.true_eq_false]
      refine Ev.bind alive_ev ?_
      exact Ev.now _
    · have e' : stillOk net s = false := by simpa using e
      simp only [e', beq_self_eq_true]
      simp (disch := omega) only [if_pos, if_neg, w64, rdn, rd0, tn, sc, Option.bind_some, ↓reduceIte, Bool.false_eq_true, Bool.true_eq_false]
      refine Ev.bind alive_ev ?_
      exact Ev.now _
  | succ d ih =>
    intro i c hd hci
    refine Ev.step (fun k => laws_FnStillOk.l0.eq_2 ..) ?_
    cases c with
    | true =>
      have h0 := hci.1 rfl
      simp (disch := omega) only [if_pos, if_neg, w64, rdn, rd0, tn, sc, Option.bind_some, ↓reduceIte, Bool.false_eq_true, Bool.true_eq_false]
      refine ih (i + 1) (G row i == 0) (by omega) ?_
      rw [beq_iff_eq]
      constructor
      · intro h; exact ⟨h0.1, fun j hj => by
          by_cases e : j = i
          · subst e; exact h
          · exact h0.2 j (by omega)⟩
      · intro h; exact h.2 i (by omega)
    | false =>
      simp (disch := omega) only [if_pos, if_neg, w64, rdn, rd0, tn, sc, Option.bind_some, ↓reduceIte, Bool.false_eq_true, Bool.true_eq_false]
      refine ih (i + 1) false (by omega) ?_
      constructor
      · intro h; cases h
      · intro h; exact absurd (hci.2 ⟨h.1, fun j hj => h.2 j (by omega)⟩) (by simp)
theorem FnStillOk : laws_FnStillOk.Pure := by
  intro l _ _ hwf
  refine Ev.rounds (r := true) ?_
  obtain ⟨net, s, hr, h6, h7⟩ := DrawStillOk_ev l hwf
  unfold laws_FnStillOk.f
  by_cases hl : l.length ≤ 1048576
  · simp (disch := omega) only [if_pos, if_neg, w64, rdn, rd0, tn, sc, Option.bind_some, ↓reduceIte, Bool.false_eq_true, Bool.true_eq_false]
    refine Ev.bind hr ?_
    refine Ev.bind (impl_StillOk_ev net s (by omega) (by omega)) ?_
    refine Ev.bind (spec_StillOk_ev net s (by omega) (by omega)) ?_
    simp only [bne_self_eq_false]
    simp (disch := omega) only [if_pos, if_neg, w64, rdn, rd0, tn, sc, Option.bind_some, ↓reduceIte, Bool.false_eq_true, Bool.true_eq_false]
    refine Ev.bind (impl_TurnedRow_ev net s 1 (by omega) (by omega)) ?_
    have hg := turnedRow_length net s 1
    refine FnStillOk_l0 net s _ (decide (((turnedRow net s 1).length : Int) > 0)) h6 h7 (by omega) ?_ (turnedRow net s 1).length 0 _ (by omega) (by simp)
    by_cases h : Asked net 3 s
    · rw [show (1 : Int) = ((1 : Nat) : Int) from rfl, turnedRow_yes h (by omega), mk_length]
      have h1 := asked1 h
      constructor
      · intro e
        have hA : turn net s = s := by unfold stillOk at e; simp at e; exact e.2
        refine ⟨by simp; omega, fun j hj => ?_⟩
        rw [G_mk _ hj]
        have hw : went net s j = 0 := if_neg ((turn_ne h hj).1 (by rw [hA]))
        show turnedN net s (0 + 1) j = 0
        rw [turnedN_succ, turnedN_zero]
        show 0 + went net s j = 0
        omega
      · rintro ⟨_, hz⟩
        unfold stillOk
        simp only [decide_eq_true_eq]
        refine ⟨h, ext (turn_length _ _) (fun j hj => ?_)⟩
        rw [turn_length] at hj
        have e := hz j hj
        rw [G_mk _ hj] at e
        have e2 : turnedN net s (0 + 1) j = 0 := e
        rw [turnedN_succ, turnedN_zero] at e2
        have e3 : 0 + went net s j = 0 := e2
        refine (turn_ne h hj).2 (fun g => ?_)
        unfold went at e3
        rw [if_pos g] at e3
        omega
    · rw [turnedRow_no (fun g => h g.1)]
      constructor
      · intro e; unfold stillOk at e; simp at e; exact absurd e.1 h
      · rintro ⟨e, _⟩; simp at e
  · simp (disch := omega) only [if_pos, if_neg, w64, rdn, rd0, tn, sc, Option.bind_some, ↓reduceIte, Bool.false_eq_true, Bool.true_eq_false]
    exact Ev.now _

end Go.Proofs.Ytgkjapgfldnjkaa.Pure
