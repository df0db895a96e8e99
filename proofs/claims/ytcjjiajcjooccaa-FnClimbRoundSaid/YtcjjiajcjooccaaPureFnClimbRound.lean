/- Proved: the statement FnClimbRound, for every input, without further conditions. -/
import Derived.Test.YtcjjiajcjooccaaPFnClimbRoundx8
import Derived.Test.YtcjjiajcjooccaaBase
import Derived.Test.YtcjjiajcjooccaaTour
namespace Go.Proofs.Ytcjjiajcjooccaa.Pure
open Go.RowKit Go.Proofs.Ytcjjiajcjooccaa.PFnClimbRound Go.Proofs.YtcjjiajcjooccaaW.PrintWords Go.Proofs.YtcjjiajcjooccaaW.PrintLast Go.Proofs.Ytcjjiajcjooccaa.B Go.Proofs.Ytcjjiajcjooccaa.C
set_option linter.unusedSimpArgs false
set_option linter.unusedVariables false

/-- A reader's bytes. -/
def RdOk (b : List Int) : Prop := b.length ≤ 2000 ∧ ∀ i, 0 ≤ G b i ∧ G b i ≤ 255
theorem spec_l20Open_eq (l : List Int) (h : ∀ x ∈ l, (Lit.int .u8 x).wf = true) : ∃ b, spec_l20Open.f l = some (b, 0) ∧ RdOk b := by
  have hl : ∀ i, 0 ≤ G l i ∧ G l i ≤ 255 := by
    intro i
    by_cases e : i < l.length
    · exact wf_u8.1 (h _ (G_mem e))
    · rw [G_of_ge (by omega)]; omega
  unfold spec_l20Open.f
  by_cases e : l.length > 2000
  · simp (disch := omega) only [if_pos, if_neg, w64, rdn, rd0, tn, sc, Option.bind_some, ↓reduceIte, Bool.false_eq_true, Bool.true_eq_false]
    refine ⟨_, rfl, by simp; omega, fun i => ?_⟩
    by_cases ei : i < 2000
    · rw [G_take ei]; exact hl i
    · rw [G_of_ge (by simp; omega)]; omega
  · simp (disch := omega) only [if_pos, if_neg, w64, rdn, rd0, tn, sc, Option.bind_some, ↓reduceIte, Bool.false_eq_true, Bool.true_eq_false]
    exact ⟨_, rfl, by omega, hl⟩

theorem xor_nn {a b : Int} (ha : 0 ≤ a) (ha' : a < 4611686018427387904) (hb : 0 ≤ b) (hb' : b < 4611686018427387904) : 0 ≤ Go.bits .xor .i64 a b := by
  obtain ⟨m, rfl⟩ := Int.eq_ofNat_of_zero_le ha
  obtain ⟨n, rfl⟩ := Int.eq_ofNat_of_zero_le hb
  show 0 ≤ IntKind.i64.wrap (((BitVec.ofInt 64 (m : Int) ^^^ BitVec.ofInt 64 (n : Int)).toNat : Nat) : Int)
  have hx : (BitVec.ofInt 64 (m : Int) ^^^ BitVec.ofInt 64 (n : Int)).toNat < 2 ^ 62 := by
    rw [BitVec.toNat_xor]
    apply Nat.xor_lt_two_pow
    · rw [BitVec.ofInt_natCast, BitVec.toNat_ofNat, Nat.mod_eq_of_lt (by omega)]; omega
    · rw [BitVec.ofInt_natCast, BitVec.toNat_ofNat, Nat.mod_eq_of_lt (by omega)]; omega
  rw [i64_w, w64 (by omega) (by omega)]; omega
theorem pick_ev (b : List Int) (hb : RdOk b) (p n : Int) (hp : 0 ≤ p) (hp2 : p ≤ 1000000) (hn : n ≤ 1000000) :
    ∃ v, Ev (fun k => spec_l20Rd_pick.f k b p n) (v, p + 1) ∧ 0 ≤ v ∧ (1 ≤ n → v < n) ∧ (n < 1 → v = 0) := by
  obtain ⟨q, rfl⟩ := Int.eq_ofNat_of_zero_le hp
  unfold spec_l20Rd_pick.f
  have hw : wrap64 ((q : Int) + 1) = (q : Int) + 1 := w64 (by omega) (by omega)
  have hw2 : wrap64 ((q : Int) + 1 - 1) = (q : Int) := by rw [w64 (by omega) (by omega)]; omega
  by_cases h1 : n < 1
  · refine ⟨0, ?_, by omega, fun h => by omega, fun _ => rfl⟩
    simp only [hw]
    rw [show (fun k => if n < 1 then spec_l20Rd_pick.j0 k n true b ((q : Int) + 1) else spec_l20Rd_pick.j0 k n ((b.length : Int) == 0) b ((q : Int) + 1)) = (fun k => spec_l20Rd_pick.j0 k n true b ((q : Int) + 1)) from funext fun k => if_pos h1]
    refine Ev.step (fun k => spec_l20Rd_pick.j0.eq_2 ..) ?_
    simp only [↓reduceIte]
    exact Ev.now _
  · simp only [hw]
    rw [show (fun k => if n < 1 then spec_l20Rd_pick.j0 k n true b ((q : Int) + 1) else spec_l20Rd_pick.j0 k n ((b.length : Int) == 0) b ((q : Int) + 1)) = (fun k => spec_l20Rd_pick.j0 k n ((b.length : Int) == 0) b ((q : Int) + 1)) from funext fun k => if_neg h1]
    by_cases h0 : b.length = 0
    · refine ⟨0, ?_, by omega, fun h => by omega, fun _ => rfl⟩
      have : ((b.length : Int) == 0) = true := beq_iff_eq.2 (by omega)
      rw [this]
      refine Ev.step (fun k => spec_l20Rd_pick.j0.eq_2 ..) ?_
      simp only [↓reduceIte]
      exact Ev.now _
    · have hz : ((b.length : Int) == 0) = false := beq_eq_false_iff_ne.2 (by omega)
      rw [hz]
      by_cases hq : q < b.length
      · have hg := hb.2 q
        have hwg : wrap64 (G b q) = G b q := w64 (by omega) (by omega)
        refine ⟨G b q % n, ?_, Int.emod_nonneg _ (by omega), fun h => Int.emod_lt_of_pos _ (by omega), fun h => absurd h h1⟩
        refine Ev.step (fun k => spec_l20Rd_pick.j0.eq_2 ..) ?_
        simp only [hw2, rdn, hwg]
        rw [tmod_nn hg.1]
        simp (disch := omega) only [if_pos, if_neg, w64, rdn, rd0, tn, sc, Option.bind_some, ↓reduceIte, Bool.false_eq_true, Bool.true_eq_false]
        exact Ev.now _
      · have hL := hb.1
        have hm1 : q % b.length < b.length := Nat.mod_lt _ (by omega)
        have hm2 : (q * 7 + 3) % b.length < b.length := Nat.mod_lt _ (by omega)
        have e1 : Int.tmod (q : Int) (b.length : Int) = ((q % b.length : Nat) : Int) := by rw [tmod_nn (by omega)]; rfl
        have e2 : wrap64 (wrap64 ((q : Int) * 7) + 3) = ((q * 7 + 3 : Nat) : Int) := by rw [w64 (n := (q : Int) * 7) (by omega) (by omega), w64 (by omega) (by omega)]; omega
        have e3 : Int.tmod ((q * 7 + 3 : Nat) : Int) (b.length : Int) = (((q * 7 + 3) % b.length : Nat) : Int) := by rw [tmod_nn (by omega)]; rfl
        obtain ⟨Q, hQ⟩ : ∃ Q, Q = q / b.length := ⟨_, rfl⟩
        have hd : Q ≤ q := by rw [hQ]; exact Nat.div_le_self _ _
        have e4 : Int.tdiv (q : Int) (b.length : Int) = (Q : Int) := by rw [tdiv_nn (by omega), hQ]; rfl
        clear hQ
        have g1 := hb.2 (q % b.length)
        have g2 := hb.2 ((q * 7 + 3) % b.length)
        have f1 : wrap64 (wrap64 (G b (q % b.length)) * 131) = G b (q % b.length) * 131 := by rw [w64 (n := G b (q % b.length)) (by omega) (by omega), w64 (by omega) (by omega)]
        have f2 : wrap64 (wrap64 (G b ((q * 7 + 3) % b.length)) * 1117) = G b ((q * 7 + 3) % b.length) * 1117 := by rw [w64 (n := G b ((q * 7 + 3) % b.length)) (by omega) (by omega), w64 (by omega) (by omega)]
        have f3 : wrap64 ((q : Int) * 29) = (q : Int) * 29 := w64 (by omega) (by omega)
        have f4 : wrap64 (wrap64 ((Q : Int)) * 53) = (Q : Int) * 53 := by rw [w64 (n := (Q : Int)) (by omega) (by omega), w64 (by omega) (by omega)]
        have f5 : wrap64 (G b (q % b.length) * 131 + G b ((q * 7 + 3) % b.length) * 1117) = G b (q % b.length) * 131 + G b ((q * 7 + 3) % b.length) * 1117 := w64 (by omega) (by omega)
        have f6 : wrap64 (G b (q % b.length) * 131 + G b ((q * 7 + 3) % b.length) * 1117 + (q : Int) * 29) = G b (q % b.length) * 131 + G b ((q * 7 + 3) % b.length) * 1117 + (q : Int) * 29 := w64 (by omega) (by omega)
        have f7 : wrap64 (G b (q % b.length) * 131 + G b ((q * 7 + 3) % b.length) * 1117 + (q : Int) * 29 + (Q : Int) * 53) = G b (q % b.length) * 131 + G b ((q * 7 + 3) % b.length) * 1117 + (q : Int) * 29 + (Q : Int) * 53 := w64 (by omega) (by omega)
        obtain ⟨X, hX⟩ : ∃ X, X = G b (q % b.length) * 131 + G b ((q * 7 + 3) % b.length) * 1117 + (q : Int) * 29 + (Q : Int) * 53 := ⟨_, rfl⟩
        have hX0 : 0 ≤ X := by omega
        have hX1 : X < 4611686018427387904 := by omega
        have f8 : wrap64 (Int.tdiv X 64) = X / 64 := by rw [tdiv_nn hX0, w64 (by omega) (by omega)]
        have f9 : wrap64 X = X := w64 (by omega) (by omega)
        have hx := xor_nn hX0 hX1 (b := X / 64) (by omega) (by omega)
        refine ⟨Go.bits .xor .i64 X (X / 64) % n, ?_, Int.emod_nonneg _ (by omega), fun h => Int.emod_lt_of_pos _ (by omega), fun h => absurd h h1⟩
        refine Ev.step (fun k => spec_l20Rd_pick.j0.eq_2 ..) ?_
        simp only [hw2, e1, e2, e3, e4, rdn, f1, f2, f3, f4, f5, f6, f7, ← hX, f9, f8]
        rw [tmod_nn hx]
        simp (disch := omega) only [if_pos, if_neg, w64, rdn, rd0, tn, sc, Option.bind_some, ↓reduceIte, Bool.false_eq_true, Bool.true_eq_false]
        exact Ev.now _

theorem spec_l1In_eq (a b c : Int) : spec_l1In.f a b c = some (decide (b ≤ a ∧ a ≤ c)) := by
  unfold spec_l1In.f
  by_cases h : b ≤ a <;> simp [h]

theorem RingNet_l0 (n : Nat) (h1 : 3 ≤ n) (h6 : n ≤ 6) : ∀ (d i : Nat) (x : List Int), n - i = d → i ≤ n → x.length = i → ∃ r, Ev (fun k => spec_RingNet.l0 k (n : Int) x (i : Int)) r ∧ r.length = n := by
  intro d
  induction d with
  | zero =>
    intro i x hd hi hx
    refine ⟨x, ?_, by omega⟩
    refine Ev.step (fun k => spec_RingNet.l0.eq_2 ..) ?_
    simp (disch := omega) only [if_pos, if_neg, w64, rdn, rd0, tn, sc, Option.bind_some, ↓reduceIte, Bool.false_eq_true, Bool.true_eq_false]
    exact Ev.now _
  | succ d ih =>
    intro i x hd hi hx
    have e1 : spec_l1In.f (n : Int) 3 6 = some true := by rw [spec_l1In_eq]; simp; omega
    have hw0 : wrap64 ((i : Int) + 1) = ((i + 1 : Nat) : Int) := by rw [w64 (by omega) (by omega)]; rfl
    have hw1 : wrap64 (wrap64 ((i : Int) + (n : Int)) - 1) = ((i + n - 1 : Nat) : Int) := by
      rw [w64 (n := (i : Int) + (n : Int)) (by omega) (by omega), w64 (by omega) (by omega)]; omega
    have hm0 : Int.tmod ((i + 1 : Nat) : Int) (n : Int) = (((i + 1) % n : Nat) : Int) := by rw [tmod_nn (by omega)]; rfl
    have hm1 : Int.tmod ((i + n - 1 : Nat) : Int) (n : Int) = (((i + n - 1) % n : Nat) : Int) := by rw [tmod_nn (by omega)]; rfl
    obtain ⟨r, hr, hl⟩ := ih (i + 1) (x ++ [Go.bits .or .i64 (shl .i64 1 (((i + 1) % n : Nat) : Int)) (shl .i64 1 (((i + n - 1) % n : Nat) : Int))]) (by omega) (by omega) (by simp [hx])
    refine ⟨r, ?_, hl⟩
    refine Ev.step (fun k => spec_RingNet.l0.eq_2 ..) ?_
    simp only [hw0, hw1, hm0, hm1, e1, Option.bind_some]
    clear hw0 hw1 hm0 hm1 e1
    simp (disch := omega) only [if_pos, if_neg, w64, rdn, rd0, tn, sc, Option.bind_some, ↓reduceIte, Bool.false_eq_true, Bool.true_eq_false]
    exact hr
theorem RingNet_ev (n : Nat) (h1 : 3 ≤ n) (h6 : n ≤ 6) : ∃ r, Ev (fun k => spec_RingNet.f k (n : Int)) r ∧ r.length = n := by
  unfold spec_RingNet.f
  exact RingNet_l0 n h1 h6 _ 0 [] rfl (by omega) rfl

theorem odd_ev (b : List Int) (hb : RdOk b) (p n : Int) (hp : 0 ≤ p) (hp2 : p ≤ 1000000) (hn : n ≤ 1000000) :
    ∃ c p', Ev (fun k => spec_l20Rd_odd.f k b p n) (c, p') ∧ p ≤ p' ∧ p' ≤ p + 1 ∧ (n ≤ 0 → c = false) := by
  unfold spec_l20Rd_odd.f
  by_cases h : n > 0
  · obtain ⟨v, hv, _⟩ := pick_ev b hb p n hp hp2 hn
    refine ⟨v == wrap64 (n - 1), p + 1, ?_, by omega, by omega, fun h' => by omega⟩
    simp (disch := omega) only [if_pos, if_neg, w64, rdn, rd0, tn, sc, Option.bind_some, ↓reduceIte, Bool.false_eq_true, Bool.true_eq_false]
    refine Ev.bind hv ?_
    exact Ev.now _
  · refine ⟨false, p, ?_, by omega, by omega, fun _ => rfl⟩
    simp (disch := omega) only [if_pos, if_neg, w64, rdn, rd0, tn, sc, Option.bind_some, ↓reduceIte, Bool.false_eq_true, Bool.true_eq_false]
    exact Ev.now _

theorem PathNet_l0 (n : Nat) (h1 : 1 ≤ n) (h6 : n ≤ 6) : ∀ (d i : Nat) (x : List Int), n - i = d → i ≤ n → x.length = i → ∃ r, Ev (fun k => spec_PathNet.l0 k (n : Int) x (i : Int)) r ∧ r.length = n := by
  intro d
  induction d with
  | zero =>
    intro i x hd hi hx
    refine ⟨x, ?_, by omega⟩
    refine Ev.step (fun k => spec_PathNet.l0.eq_2 ..) ?_
    simp (disch := omega) only [if_pos, if_neg, w64, rdn, rd0, tn, sc, Option.bind_some, ↓reduceIte, Bool.false_eq_true, Bool.true_eq_false]
    refine Ev.step (fun k => spec_PathNet.j1.eq_2 ..) ?_
    simp (disch := omega) only [if_pos, if_neg, w64, rdn, rd0, tn, sc, Option.bind_some, ↓reduceIte, Bool.false_eq_true, Bool.true_eq_false]
    exact Ev.now _
  | succ d ih =>
    intro i x hd hi hx
    have e1 : spec_l1In.f (n : Int) 1 6 = some true := by rw [spec_l1In_eq]; simp; omega
    have hw0 : wrap64 ((i : Int) + 1) = ((i + 1 : Nat) : Int) := by rw [w64 (by omega) (by omega)]; rfl
    have next : ∀ v, ∃ r, Ev (fun k => spec_PathNet.l0 k (n : Int) (x ++ [v]) ((i + 1 : Nat) : Int)) r ∧ r.length = n := fun v => ih (i + 1) _ (by omega) (by omega) (by simp [hx])
    by_cases hi0 : 0 < i
    · have hw : wrap64 ((i : Int) - 1) = ((i - 1 : Nat) : Int) := by rw [w64 (by omega) (by omega)]; omega
      by_cases hn : i + 1 < n
      · obtain ⟨r, hr, hl⟩ := next (Go.bits .or .i64 (Go.bits .or .i64 0 (shl .i64 1 ((i - 1 : Nat) : Int))) (shl .i64 1 ((i + 1 : Nat) : Int)))
        refine ⟨r, ?_, hl⟩
        refine Ev.step (fun k => spec_PathNet.l0.eq_2 ..) ?_
        simp (disch := omega) only [if_pos, if_neg, w64, rdn, rd0, tn, sc, Option.bind_some, ↓reduceIte, Bool.false_eq_true, Bool.true_eq_false]
        simp only [e1, Option.bind_some]
        refine Ev.step (fun k => spec_PathNet.j1.eq_2 ..) ?_
        simp only [hw, hw0]
        simp (disch := omega) only [if_pos, if_neg, w64, rdn, rd0, tn, sc, Option.bind_some, ↓reduceIte, Bool.false_eq_true, Bool.true_eq_false]
        exact hr
      · obtain ⟨r, hr, hl⟩ := next (Go.bits .or .i64 0 (shl .i64 1 ((i - 1 : Nat) : Int)))
        refine ⟨r, ?_, hl⟩
        refine Ev.step (fun k => spec_PathNet.l0.eq_2 ..) ?_
        simp (disch := omega) only [if_pos, if_neg, w64, rdn, rd0, tn, sc, Option.bind_some, ↓reduceIte, Bool.false_eq_true, Bool.true_eq_false]
        simp only [e1, Option.bind_some]
        refine Ev.step (fun k => spec_PathNet.j1.eq_2 ..) ?_
        simp only [hw, hw0]
        simp (disch := omega) only [if_pos, if_neg, w64, rdn, rd0, tn, sc, Option.bind_some, ↓reduceIte, Bool.false_eq_true, Bool.true_eq_false]
        exact hr
    · by_cases hn : i + 1 < n
      · obtain ⟨r, hr, hl⟩ := next (Go.bits .or .i64 0 (shl .i64 1 ((i + 1 : Nat) : Int)))
        refine ⟨r, ?_, hl⟩
        refine Ev.step (fun k => spec_PathNet.l0.eq_2 ..) ?_
        simp (disch := omega) only [if_pos, if_neg, w64, rdn, rd0, tn, sc, Option.bind_some, ↓reduceIte, Bool.false_eq_true, Bool.true_eq_false]
        simp only [e1, Option.bind_some]
        refine Ev.step (fun k => spec_PathNet.j1.eq_2 ..) ?_
        simp only [hw0]
        simp (disch := omega) only [if_pos, if_neg, w64, rdn, rd0, tn, sc, Option.bind_some, ↓reduceIte, Bool.false_eq_true, Bool.true_eq_false]
        exact hr
      · obtain ⟨r, hr, hl⟩ := next 0
        refine ⟨r, ?_, hl⟩
        refine Ev.step (fun k => spec_PathNet.l0.eq_2 ..) ?_
        simp (disch := omega) only [if_pos, if_neg, w64, rdn, rd0, tn, sc, Option.bind_some, ↓reduceIte, Bool.false_eq_true, Bool.true_eq_false]
        simp only [e1, Option.bind_some]
        refine Ev.step (fun k => spec_PathNet.j1.eq_2 ..) ?_
        simp only [hw0]
        simp (disch := omega) only [if_pos, if_neg, w64, rdn, rd0, tn, sc, Option.bind_some, ↓reduceIte, Bool.false_eq_true, Bool.true_eq_false]
        exact hr
theorem PathNet_ev (n : Nat) (h1 : 1 ≤ n) (h6 : n ≤ 6) : ∃ r, Ev (fun k => spec_PathNet.f k (n : Int)) r ∧ r.length = n := by
  unfold spec_PathNet.f
  exact PathNet_l0 n h1 h6 _ 0 [] rfl (by omega) rfl

theorem l20Net_l0 (b : List Int) (hb : RdOk b) (n : Int) (hn : n ≤ 1000000) (nodes : Nat) (h1 : 1 ≤ nodes) (h6 : nodes ≤ 6) : ∀ (d : Nat) (x : List Int) (p : Int), x.length = nodes → 0 ≤ p → p ≤ 10000 - 2 * d →
    ∃ r p', Ev (fun k => spec_l20Net.l0 k n (nodes : Int) x (d : Int) b p) (r, p') ∧ p ≤ p' ∧ p' ≤ p + 2 * d + 2 ∧ r.length ≤ 6 := by
  intro d
  induction d with
  | zero =>
    intro x p hx hp hp2
    obtain ⟨c, p1, hc, hc1, hc2, _⟩ := odd_ev b hb p n hp (by omega) hn
    cases c with
    | false =>
      refine ⟨x, p1, ?_, by omega, by omega, by omega⟩
      refine Ev.step (fun k => spec_l20Net.l0.eq_2 ..) ?_
      simp (disch := omega) only [if_pos, if_neg, w64, rdn, rd0, tn, sc, Option.bind_some, ↓reduceIte, Bool.false_eq_true, Bool.true_eq_false]
      refine Ev.bind hc ?_
      simp (disch := omega) only [if_pos, if_neg, w64, rdn, rd0, tn, sc, Option.bind_some, ↓reduceIte, Bool.false_eq_true, Bool.true_eq_false]
      exact Ev.now _
    | true =>
      obtain ⟨v, hv, hv0, hv1, _⟩ := pick_ev b hb p1 3 (by omega) (by omega) (by omega)
      by_cases e0 : v = 0
      · refine ⟨[], p1 + 1, ?_, by omega, by omega, by simp⟩
        refine Ev.step (fun k => spec_l20Net.l0.eq_2 ..) ?_
        simp (disch := omega) only [if_pos, if_neg, w64, rdn, rd0, tn, sc, Option.bind_some, ↓reduceIte, Bool.false_eq_true, Bool.true_eq_false]
        refine Ev.bind hc ?_
        simp (disch := omega) only [if_pos, if_neg, w64, rdn, rd0, tn, sc, Option.bind_some, ↓reduceIte, Bool.false_eq_true, Bool.true_eq_false]
        refine Ev.bind hv ?_
        simp (disch := omega) only [if_pos, if_neg, w64, rdn, rd0, tn, sc, Option.bind_some, ↓reduceIte, Bool.false_eq_true, Bool.true_eq_false]
        exact Ev.now _
      · by_cases e1 : v = 1
        · refine ⟨x.set 0 (Go.bits .or .i64 (G x 0) 1), p1 + 1, ?_, by omega, by omega, by simp; omega⟩
          refine Ev.step (fun k => spec_l20Net.l0.eq_2 ..) ?_
          simp (disch := omega) only [if_pos, if_neg, w64, rdn, rd0, tn, sc, Option.bind_some, ↓reduceIte, Bool.false_eq_true, Bool.true_eq_false]
          refine Ev.bind hc ?_
          simp (disch := omega) only [if_pos, if_neg, w64, rdn, rd0, tn, sc, Option.bind_some, ↓reduceIte, Bool.false_eq_true, Bool.true_eq_false]
          refine Ev.bind hv ?_
          simp (disch := omega) only [if_pos, if_neg, w64, rdn, rd0, tn, sc, Option.bind_some, ↓reduceIte, Bool.false_eq_true, Bool.true_eq_false]
          exact Ev.now _
        · have hw : wrap64 ((nodes : Int) - 1) = (nodes : Int) - 1 := w64 (by omega) (by omega)
          by_cases e2 : nodes = 1
          · refine ⟨(x.set 0 (Go.bits .xor .i64 (G x 0) (shl .i64 1 ((nodes : Int) - 1)))).set 0 (-1), p1 + 1, ?_, by omega, by omega, by simp; omega⟩
            refine Ev.step (fun k => spec_l20Net.l0.eq_2 ..) ?_
            simp only [hw]
            simp (disch := omega) only [if_pos, if_neg, w64, rdn, rd0, tn, sc, Option.bind_some, ↓reduceIte, Bool.false_eq_true, Bool.true_eq_false]
            refine Ev.bind hc ?_
            simp (disch := omega) only [if_pos, if_neg, w64, rdn, rd0, tn, sc, Option.bind_some, ↓reduceIte, Bool.false_eq_true, Bool.true_eq_false]
            refine Ev.bind hv ?_
            simp (disch := omega) only [if_pos, if_neg, w64, rdn, rd0, tn, sc, Option.bind_some, ↓reduceIte, Bool.false_eq_true, Bool.true_eq_false]
            exact Ev.now _
          · refine ⟨x.set 0 (Go.bits .xor .i64 (G x 0) (shl .i64 1 ((nodes : Int) - 1))), p1 + 1, ?_, by omega, by omega, by simp; omega⟩
            refine Ev.step (fun k => spec_l20Net.l0.eq_2 ..) ?_
            simp only [hw]
            simp (disch := omega) only [if_pos, if_neg, w64, rdn, rd0, tn, sc, Option.bind_some, ↓reduceIte, Bool.false_eq_true, Bool.true_eq_false]
            refine Ev.bind hc ?_
            simp (disch := omega) only [if_pos, if_neg, w64, rdn, rd0, tn, sc, Option.bind_some, ↓reduceIte, Bool.false_eq_true, Bool.true_eq_false]
            refine Ev.bind hv ?_
            simp (disch := omega) only [if_pos, if_neg, w64, rdn, rd0, tn, sc, Option.bind_some, ↓reduceIte, Bool.false_eq_true, Bool.true_eq_false]
            exact Ev.now _
  | succ d ih =>
    intro x p hx hp hp2
    obtain ⟨v, hv, hv0, hv1, _⟩ := pick_ev b hb p (nodes : Int) hp (by omega) (by omega)
    obtain ⟨u, hu, hu0, hu1, _⟩ := pick_ev b hb (p + 1) (nodes : Int) (by omega) (by omega) (by omega)
    have hw : wrap64 (((d + 1 : Nat) : Int) - 1) = (d : Int) := by rw [w64 (by omega) (by omega)]; omega
    obtain ⟨i, rfl⟩ := Int.eq_ofNat_of_zero_le hv0
    obtain ⟨j, rfl⟩ := Int.eq_ofNat_of_zero_le hu0
    by_cases e : i = j
    · obtain ⟨r, p', hr, h2, h3, h4⟩ := ih x (p + 1 + 1) hx (by omega) (by omega)
      refine ⟨r, p', ?_, by omega, by omega, h4⟩
      refine Ev.step (fun k => spec_l20Net.l0.eq_2 ..) ?_
      simp only [hw]
      simp (disch := omega) only [if_pos, if_neg, w64, rdn, rd0, tn, sc, Option.bind_some, ↓reduceIte, Bool.false_eq_true, Bool.true_eq_false]
      refine Ev.bind hv ?_
      refine Ev.bind hu ?_
      simp (disch := omega) only [if_pos, if_neg, w64, rdn, rd0, tn, sc, Option.bind_some, ↓reduceIte, Bool.false_eq_true, Bool.true_eq_false]
      exact hr
    · obtain ⟨r, p', hr, h2, h3, h4⟩ := ih ((x.set i (Go.bits .or .i64 (G x i) (shl .i64 1 (j : Int)))).set j (Go.bits .or .i64 (G (x.set i (Go.bits .or .i64 (G x i) (shl .i64 1 (j : Int)))) j) (shl .i64 1 (i : Int)))) (p + 1 + 1) (by simp [hx]) (by omega) (by omega)
      refine ⟨r, p', ?_, by omega, by omega, h4⟩
      refine Ev.step (fun k => spec_l20Net.l0.eq_2 ..) ?_
      simp only [hw]
      simp (disch := omega) only [if_pos, if_neg, w64, rdn, rd0, tn, sc, Option.bind_some, ↓reduceIte, Bool.false_eq_true, Bool.true_eq_false]
      refine Ev.bind hv ?_
      refine Ev.bind hu ?_
      simp only [List.length_set]
      simp (disch := omega) only [if_pos, if_neg, w64, rdn, rd0, tn, sc, Option.bind_some, ↓reduceIte, Bool.false_eq_true, Bool.true_eq_false]
      exact hr
theorem l20Net_ev (b : List Int) (hb : RdOk b) (n p : Int) (hn : n ≤ 1000000) (hp : 0 ≤ p) (hp2 : p ≤ 9000) :
    ∃ r p', Ev (fun k => spec_l20Net.f k b p n) (r, p') ∧ p ≤ p' ∧ p' ≤ p + 20 ∧ r.length ≤ 6 := by
  obtain ⟨v, hv, hv0, hv1, _⟩ := pick_ev b hb p 6 hp (by omega) (by omega)
  obtain ⟨m, rfl⟩ := Int.eq_ofNat_of_zero_le hv0
  have hw : wrap64 (1 + (m : Int)) = ((1 + m : Nat) : Int) := by rw [w64 (by omega) (by omega)]; omega
  obtain ⟨x, hx, hxl⟩ := PathNet_ev (1 + m) (by omega) (by omega)
  obtain ⟨u, hu, hu0, hu1, _⟩ := pick_ev b hb (p + 1) 4 (by omega) (by omega) (by omega)
  have next : ∀ y : List Int, y.length = 1 + m → ∃ r p', Ev (fun k => spec_l20Net.j0 k n ((1 + m : Nat) : Int) y b (p + 1 + 1)) (r, p') ∧ p ≤ p' ∧ p' ≤ p + 20 ∧ r.length ≤ 6 := by
    intro y hy
    obtain ⟨t, ht, ht0, ht1, _⟩ := pick_ev b hb (p + 1 + 1) 6 (by omega) (by omega) (by omega)
    obtain ⟨q, rfl⟩ := Int.eq_ofNat_of_zero_le ht0
    obtain ⟨r, p', hr, h2, h3, h4⟩ := l20Net_l0 b hb n hn (1 + m) (by omega) (by omega) q y (p + 1 + 1 + 1) hy (by omega) (by omega)
    refine ⟨r, p', ?_, by omega, by omega, h4⟩
    refine Ev.step (fun k => spec_l20Net.j0.eq_2 ..) ?_
    refine Ev.bind ht ?_
    exact hr
  by_cases e0 : u = 0
  · by_cases e3 : 3 ≤ 1 + m
    · obtain ⟨y, hy, hyl⟩ := RingNet_ev (1 + m) e3 (by omega)
      obtain ⟨r, p', hr, h⟩ := next y hyl
      refine ⟨r, p', ?_, h⟩
      unfold spec_l20Net.f
      refine Ev.bind hv ?_
      simp only [hw]
      refine Ev.bind hx ?_
      refine Ev.bind hu ?_
      simp (disch := omega) only [if_pos, if_neg, w64, rdn, rd0, tn, sc, Option.bind_some, ↓reduceIte, Bool.false_eq_true, Bool.true_eq_false]
      refine Ev.bind hy ?_
      exact hr
    · obtain ⟨r, p', hr, h⟩ := next x hxl
      refine ⟨r, p', ?_, h⟩
      unfold spec_l20Net.f
      refine Ev.bind hv ?_
      simp only [hw]
      refine Ev.bind hx ?_
      refine Ev.bind hu ?_
      simp (disch := omega) only [if_pos, if_neg, w64, rdn, rd0, tn, sc, Option.bind_some, ↓reduceIte, Bool.false_eq_true, Bool.true_eq_false]
      exact hr
  · by_cases e1 : u = 1
    · obtain ⟨r, p', hr, h⟩ := next (List.replicate (1 + m) 0) (by simp)
      refine ⟨r, p', ?_, h⟩
      unfold spec_l20Net.f
      refine Ev.bind hv ?_
      simp only [hw]
      refine Ev.bind hx ?_
      refine Ev.bind hu ?_
      simp (disch := omega) only [if_pos, if_neg, w64, rdn, rd0, tn, sc, Option.bind_some, ↓reduceIte, Bool.false_eq_true, Bool.true_eq_false]
      exact hr
    · obtain ⟨r, p', hr, h⟩ := next x hxl
      refine ⟨r, p', ?_, h⟩
      unfold spec_l20Net.f
      refine Ev.bind hv ?_
      simp only [hw]
      refine Ev.bind hx ?_
      refine Ev.bind hu ?_
      simp (disch := omega) only [if_pos, if_neg, w64, rdn, rd0, tn, sc, Option.bind_some, ↓reduceIte, Bool.false_eq_true, Bool.true_eq_false]
      exact hr

theorem l20State_l0 (b : List Int) (hb : RdOk b) (nodes : Nat) (kinds n thin : Int) (h1 : 1 ≤ nodes) (h9 : nodes ≤ 100) (hk : 1 ≤ kinds) (hk' : kinds ≤ 1000) (hn : n ≤ 1000000) :
    ∀ (d : Nat) (i : Nat) (s : List Int) (p : Int), nodes - i = d → i ≤ nodes → s.length = i → (∀ j, 0 ≤ G s j ∧ G s j ≤ kinds) → 0 ≤ p → p ≤ 100000 - 2 * (nodes - i) →
      ∃ r p', Ev (fun k => spec_l20State.l0 k (nodes : Int) kinds n s thin (i : Int) b p) (r, p') ∧ p ≤ p' ∧ p' ≤ p + 2 * (nodes - i) + 2 ∧ (r.length = 0 ∨ r.length = nodes) ∧ (∀ j, 0 ≤ G r j ∧ G r j ≤ kinds) ∧ (n ≤ 0 → r.length = nodes) := by
  intro d
  induction d with
  | zero =>
    intro i s p hd hi hs hj hp hp2
    have hin : i = nodes := by omega
    obtain ⟨c, p1, hc, hc1, hc2, hc3⟩ := odd_ev b hb p n hp (by omega) hn
    cases c with
    | false =>
      refine ⟨s, p1, ?_, by omega, by omega, Or.inr (by omega), hj, fun _ => by omega⟩
      refine Ev.step (fun k => spec_l20State.l0.eq_2 ..) ?_
      simp (disch := omega) only [if_pos, if_neg, w64, rdn, rd0, tn, sc, Option.bind_some, ↓reduceIte, Bool.false_eq_true, Bool.true_eq_false]
      refine Ev.bind hc ?_
      simp (disch := omega) only [if_pos, if_neg, w64, rdn, rd0, tn, sc, Option.bind_some, ↓reduceIte, Bool.false_eq_true, Bool.true_eq_false]
      exact Ev.now _
    | true =>
      obtain ⟨v, hv, _⟩ := pick_ev b hb p1 2 (by omega) (by omega) (by omega)
      by_cases hv0 : v = 0
      · refine ⟨[], p1 + 1, ?_, by omega, by omega, Or.inl rfl, fun j => by simp [G]; omega, fun h => by have := hc3 h; simp at this⟩
        refine Ev.step (fun k => spec_l20State.l0.eq_2 ..) ?_
        simp (disch := omega) only [if_pos, if_neg, w64, rdn, rd0, tn, sc, Option.bind_some, ↓reduceIte, Bool.false_eq_true, Bool.true_eq_false]
        refine Ev.bind hc ?_
        simp (disch := omega) only [if_pos, if_neg, w64, rdn, rd0, tn, sc, Option.bind_some, ↓reduceIte, Bool.false_eq_true, Bool.true_eq_false]
        refine Ev.bind hv ?_
        simp (disch := omega) only [if_pos, if_neg, w64, rdn, rd0, tn, sc, Option.bind_some, ↓reduceIte, Bool.false_eq_true, Bool.true_eq_false]
        exact Ev.now _
      · refine ⟨s.set (nodes - 1) kinds, p1 + 1, ?_, by omega, by omega, Or.inr (by simp; omega), fun j => ?_, fun h => by have := hc3 h; simp at this⟩
        · have hw : wrap64 ((s.length : Int) - 1) = ((nodes - 1 : Nat) : Int) := by rw [w64 (by omega) (by omega)]; omega
          refine Ev.step (fun k => spec_l20State.l0.eq_2 ..) ?_
          simp only [hw]
          simp (disch := omega) only [if_pos, if_neg, w64, rdn, rd0, tn, sc, Option.bind_some, ↓reduceIte, Bool.false_eq_true, Bool.true_eq_false]
          refine Ev.bind hc ?_
          simp (disch := omega) only [if_pos, if_neg, w64, rdn, rd0, tn, sc, Option.bind_some, ↓reduceIte, Bool.false_eq_true, Bool.true_eq_false]
          refine Ev.bind hv ?_
          simp (disch := omega) only [if_pos, if_neg, w64, rdn, rd0, tn, sc, Option.bind_some, ↓reduceIte, Bool.false_eq_true, Bool.true_eq_false]
          exact Ev.now _
        · by_cases e : j = nodes - 1
          · subst e; rw [G_set_self _ (by omega)]; omega
          · rw [G_set_ne _ e]; exact hj j
  | succ d ih =>
    intro i s p hd hi hs hj hp hp2
    have next : ∀ v p1, 0 ≤ v → v ≤ kinds → p ≤ p1 → p1 ≤ p + 2 → ∃ r p', Ev (fun k => spec_l20State.l0 k (nodes : Int) kinds n (s ++ [v]) thin ((i + 1 : Nat) : Int) b p1) (r, p') ∧ p1 ≤ p' ∧ p' ≤ p1 + 2 * (nodes - (i + 1)) + 2 ∧ (r.length = 0 ∨ r.length = nodes) ∧ (∀ j, 0 ≤ G r j ∧ G r j ≤ kinds) ∧ (n ≤ 0 → r.length = nodes) := by
      intro v p1 hv hv' hp1 hp1'
      refine (ih (i + 1) (s ++ [v]) p1 (by omega) (by omega) (by simp [hs]) ?_ (by omega) (by omega))
      intro j
      by_cases e : j < i
      · rw [G_append_left (by omega)]; exact hj j
      · rw [G_append_right (by omega)]
        by_cases e2 : j - s.length = 0
        · rw [e2]; simp [G]; omega
        · rw [G_of_ge (by simp; omega)]; omega
    by_cases ht : thin > 0
    · obtain ⟨v, hv, hv0, hv1, _⟩ := pick_ev b hb p 3 hp (by omega) (by omega)
      by_cases hvt : v < thin
      · obtain ⟨r, p', hr, h2, h3, h4⟩ := next 0 (p + 1) (by omega) (by omega) (by omega) (by omega)
        refine ⟨r, p', ?_, by omega, by omega, h4⟩
        refine Ev.step (fun k => spec_l20State.l0.eq_2 ..) ?_
        simp (disch := omega) only [if_pos, if_neg, w64, rdn, rd0, tn, sc, Option.bind_some, ↓reduceIte, Bool.false_eq_true, Bool.true_eq_false]
        refine Ev.bind hv ?_
        simp (disch := omega) only [if_pos, if_neg, w64, rdn, rd0, tn, sc, Option.bind_some, ↓reduceIte, Bool.false_eq_true, Bool.true_eq_false]
        exact hr
      · obtain ⟨u, hu, hu0, hu1, _⟩ := pick_ev b hb (p + 1) kinds (by omega) (by omega) (by omega)
        obtain ⟨r, p', hr, h2, h3, h4⟩ := next u (p + 1 + 1) hu0 (by omega) (by omega) (by omega)
        refine ⟨r, p', ?_, by omega, by omega, h4⟩
        refine Ev.step (fun k => spec_l20State.l0.eq_2 ..) ?_
        simp (disch := omega) only [if_pos, if_neg, w64, rdn, rd0, tn, sc, Option.bind_some, ↓reduceIte, Bool.false_eq_true, Bool.true_eq_false]
        refine Ev.bind hv ?_
        simp (disch := omega) only [if_pos, if_neg, w64, rdn, rd0, tn, sc, Option.bind_some, ↓reduceIte, Bool.false_eq_true, Bool.true_eq_false]
        refine Ev.bind hu ?_
        simp (disch := omega) only [if_pos, if_neg, w64, rdn, rd0, tn, sc, Option.bind_some, ↓reduceIte, Bool.false_eq_true, Bool.true_eq_false]
        exact hr
    · obtain ⟨u, hu, hu0, hu1, _⟩ := pick_ev b hb p kinds (by omega) (by omega) (by omega)
      obtain ⟨r, p', hr, h2, h3, h4⟩ := next u (p + 1) hu0 (by omega) (by omega) (by omega)
      refine ⟨r, p', ?_, by omega, by omega, h4⟩
      refine Ev.step (fun k => spec_l20State.l0.eq_2 ..) ?_
      simp (disch := omega) only [if_pos, if_neg, w64, rdn, rd0, tn, sc, Option.bind_some, ↓reduceIte, Bool.false_eq_true, Bool.true_eq_false]
      refine Ev.bind hu ?_
      simp (disch := omega) only [if_pos, if_neg, w64, rdn, rd0, tn, sc, Option.bind_some, ↓reduceIte, Bool.false_eq_true, Bool.true_eq_false]
      exact hr
theorem l20State_ev (b : List Int) (hb : RdOk b) (nodes : Nat) (kinds n p : Int) (h1 : 1 ≤ nodes) (h9 : nodes ≤ 100) (hk : 1 ≤ kinds) (hk' : kinds ≤ 1000) (hn : n ≤ 1000000) (hp : 0 ≤ p) (hp2 : p ≤ 10000) :
    ∃ r p', Ev (fun k => spec_l20State.f k b p (nodes : Int) kinds n) (r, p') ∧ p ≤ p' ∧ p' ≤ p + 300 ∧ (r.length = 0 ∨ r.length = nodes) ∧ (∀ j, 0 ≤ G r j ∧ G r j ≤ kinds) ∧ (n ≤ 0 → r.length = nodes) := by
  obtain ⟨v, hv, hv0, hv1, _⟩ := pick_ev b hb p 3 hp (by omega) (by omega)
  obtain ⟨r, p', hr, h2, h3, h4⟩ := l20State_l0 b hb nodes kinds n v h1 h9 hk hk' hn _ 0 [] (p + 1) rfl (by omega) rfl (fun j => by simp [G]; omega) (by omega) (by omega)
  refine ⟨r, p', ?_, by omega, by omega, h4⟩
  unfold spec_l20State.f
  refine Ev.bind hv ?_
  exact hr

theorem l20Turn_ev (b : List Int) (hb : RdOk b) (n p : Int) (hn0 : 0 ≤ n) (hn : n ≤ 1000) (hp : 0 ≤ p) (hp2 : p ≤ 1000) :
    ∃ net s p', Ev (fun k => spec_l20Turn.f k b p n) (net, s, p') ∧ p ≤ p' ∧ p' ≤ p + 400 ∧ net.length ≤ 6 ∧ s.length ≤ 7 := by
  have hw : wrap64 (n * 2) = n * 2 := w64 (by omega) (by omega)
  obtain ⟨net, p1, h1, h1a, h1b, h1c⟩ := l20Net_ev b hb (n * 2) p (by omega) hp (by omega)
  obtain ⟨m, hm, hm1, hm6⟩ : ∃ m : Nat, mx (net.length : Int) 1 = (m : Int) ∧ 1 ≤ m ∧ m ≤ 6 := by
    unfold mx
    by_cases e : (net.length : Int) < 1
    · exact ⟨1, by rw [if_pos e]; rfl, by omega, by omega⟩
    · exact ⟨net.length, by rw [if_neg e], by omega, by omega⟩
  obtain ⟨s, p2, h2, h2a, h2b, h2c, _⟩ := l20State_ev b hb m 3 (n * 2) p1 hm1 (by omega) (by omega) (by omega) (by omega) (by omega) (by omega)
  obtain ⟨c, p3, h3, h3a, h3b, _⟩ := odd_ev b hb p2 (n * 2) (by omega) (by omega) (by omega)
  cases c with
  | true =>
    refine ⟨net, s ++ [0], p3, ?_, by omega, by omega, h1c, by simp; omega⟩
    unfold spec_l20Turn.f
    simp only [hw]
    refine Ev.bind h1 ?_
    simp only [hm]
    refine Ev.bind h2 ?_
    refine Ev.bind h3 ?_
    simp (disch := omega) only [if_pos, if_neg, w64, rdn, rd0, tn, sc, Option.bind_some, ↓reduceIte, Bool.false_eq_true, Bool.true_eq_false]
    exact Ev.now _
  | false =>
    refine ⟨net, s, p3, ?_, by omega, by omega, h1c, by omega⟩
    unfold spec_l20Turn.f
    simp only [hw]
    refine Ev.bind h1 ?_
    simp only [hm]
    refine Ev.bind h2 ?_
    refine Ev.bind h3 ?_
    simp (disch := omega) only [if_pos, if_neg, w64, rdn, rd0, tn, sc, Option.bind_some, ↓reduceIte, Bool.false_eq_true, Bool.true_eq_false]
    exact Ev.now _

theorem l20Tour_l (b : List Int) (hb : RdOk b) (net : List Int) (h1 : 1 ≤ net.length) (h6 : net.length ≤ 6) : ∀ (d : Nat),
    (∀ (x : List Int) (p : Int), 1 ≤ x.length → x.length + d ≤ 20 → (∀ j, j < x.length → 0 ≤ G x j ∧ G x j < net.length) → 0 ≤ p → p ≤ 10000 - 2 * d →
      ∃ r p', Ev (fun k => spec_l20Tour.l0 k net x (d : Int) b p) (r, p') ∧ p ≤ p' ∧ p' ≤ p + 2 * d + 2 ∧ 1 ≤ r.length ∧ r.length ≤ 21 ∧ (∀ j, j < r.length → 0 ≤ G r j ∧ G r j < 7)) := by
  intro d
  induction d with
  | zero =>
    intro x p hx1 hx hxb hp hp2
    obtain ⟨c, p1, hc, hc1, hc2, _⟩ := odd_ev b hb p 14 hp (by omega) (by omega)
    cases c with
    | false =>
      refine ⟨x, p1, ?_, by omega, by omega, by omega, by omega, fun j hj => by have := hxb j hj; omega⟩
      refine Ev.step (fun k => spec_l20Tour.l0.eq_2 ..) ?_
      simp (disch := omega) only [if_pos, if_neg, w64, rdn, rd0, tn, sc, Option.bind_some, ↓reduceIte, Bool.false_eq_true, Bool.true_eq_false]
      refine Ev.bind hc ?_
      simp (disch := omega) only [if_pos, if_neg, w64, rdn, rd0, tn, sc, Option.bind_some, ↓reduceIte, Bool.false_eq_true, Bool.true_eq_false]
      exact Ev.now _
    | true =>
      obtain ⟨v, hv, hv0, hv1, _⟩ := pick_ev b hb p1 7 (by omega) (by omega) (by omega)
      refine ⟨x ++ [v], p1 + 1, ?_, by omega, by omega, by simp, by simp; omega, fun j hj => ?_⟩
      · refine Ev.step (fun k => spec_l20Tour.l0.eq_2 ..) ?_
        simp (disch := omega) only [if_pos, if_neg, w64, rdn, rd0, tn, sc, Option.bind_some, ↓reduceIte, Bool.false_eq_true, Bool.true_eq_false]
        refine Ev.bind hc ?_
        simp (disch := omega) only [if_pos, if_neg, w64, rdn, rd0, tn, sc, Option.bind_some, ↓reduceIte, Bool.false_eq_true, Bool.true_eq_false]
        refine Ev.bind hv ?_
        simp (disch := omega) only [if_pos, if_neg, w64, rdn, rd0, tn, sc, Option.bind_some, ↓reduceIte, Bool.false_eq_true, Bool.true_eq_false]
        exact Ev.now _
      · by_cases e : j < x.length
        · rw [G_append_left e]; have := hxb j e; omega
        · simp at hj
          rw [G_append_right (by omega), show j - x.length = 0 from by omega]; simp [G]; omega
  | succ d ih =>
    intro x p hx1 hx hxb hp hp2
    have inner : ∀ (m : Nat), m < net.length → ∀ (at' : Nat), at' < net.length → ∀ (q i : Nat), i + q = net.length → ∃ r p', Ev (fun k => spec_l20Tour.l1 k net x ((d + 1 : Nat) : Int) (at' : Int) (m : Int) (i : Int) b (p + 1)) (r, p') ∧ p ≤ p' ∧ p' ≤ p + 2 * (d + 1) + 2 ∧ 1 ≤ r.length ∧ r.length ≤ 21 ∧ (∀ j, j < r.length → 0 ≤ G r j ∧ G r j < 7) := by
      intro m hm0 at' hat q
      induction q with
      | zero =>
        intro i hq
        obtain ⟨r, p', hr, h2, h3, h4⟩ := ih x (p + 1) hx1 (by omega) hxb (by omega) (by omega)
        refine ⟨r, p', ?_, by omega, by omega, h4⟩
        have hw : wrap64 (((d + 1 : Nat) : Int) - 1) = (d : Int) := by rw [w64 (by omega) (by omega)]; omega
        refine Ev.step (fun k => spec_l20Tour.l1.eq_2 ..) ?_
        simp only [hw]
        clear hw
        simp (disch := omega) only [if_pos, if_neg, w64, rdn, rd0, tn, sc, Option.bind_some, ↓reduceIte, Bool.false_eq_true, Bool.true_eq_false]
        exact hr
      | succ q ihq =>
        intro i hq
        obtain ⟨t, hm, hlt⟩ := tmod_some (m + i) net.length (Nat.lt_of_lt_of_le Nat.zero_lt_one h1)
        by_cases e : Int.tmod (shr .i64 (G net at') (t : Int)) 2 = 1
        · obtain ⟨r, p', hr, h2, h3, h4⟩ := ih (x ++ [(t : Int)]) (p + 1) (by simp) (by simp; omega) (fun j hj => by
            by_cases e : j < x.length
            · rw [G_append_left e]; exact hxb j e
            · simp at hj
              rw [G_append_right (by omega), show j - x.length = 0 from by omega]; simp [G]; omega) (by omega) (by omega)
          refine ⟨r, p', ?_, by omega, by omega, h4⟩
          refine Ev.step (fun k => spec_l20Tour.l1.eq_2 ..) ?_
          have hw : wrap64 (((d + 1 : Nat) : Int) - 1) = (d : Int) := by clear hm e h2 h3 h4; rw [w64 (by omega) (by omega)]; omega
          have hw2 : wrap64 ((m : Int) + (i : Int)) = ((m + i : Nat) : Int) := by clear hm e h2 h3 h4 hw; rw [w64 (by omega) (by omega)]; omega
          have hw3 : wrap64 ((i : Int) + 1) = ((i + 1 : Nat) : Int) := by clear hm e h2 h3 h4 hw hw2; rw [w64 (by omega) (by omega)]; omega
          simp only [hw, hw2, hw3, hm, rdn, e]
          clear hm hw hw2 hw3 e h2 h3 h4
          simp (disch := omega) only [if_pos, if_neg, w64, rdn, rd0, tn, sc, Option.bind_some, ↓reduceIte, Bool.false_eq_true, Bool.true_eq_false]
          exact hr
        · obtain ⟨r, p', hr, h2, h3, h4⟩ := ihq (i + 1) (by omega)
          refine ⟨r, p', ?_, by omega, by omega, h4⟩
          refine Ev.step (fun k => spec_l20Tour.l1.eq_2 ..) ?_
          have hw : wrap64 (((d + 1 : Nat) : Int) - 1) = (d : Int) := by clear hm e h2 h3 h4; rw [w64 (by omega) (by omega)]; omega
          have hw2 : wrap64 ((m : Int) + (i : Int)) = ((m + i : Nat) : Int) := by clear hm e h2 h3 h4 hw; rw [w64 (by omega) (by omega)]; omega
          have hw3 : wrap64 ((i : Int) + 1) = ((i + 1 : Nat) : Int) := by clear hm e h2 h3 h4 hw hw2; rw [w64 (by omega) (by omega)]; omega
          simp only [hw, hw2, hw3, hm, rdn, e]
          clear hm hw hw2 hw3 e h2 h3 h4
          simp (disch := omega) only [if_pos, if_neg, w64, rdn, rd0, tn, sc, Option.bind_some, ↓reduceIte, Bool.false_eq_true, Bool.true_eq_false]
          exact hr
    obtain ⟨v, hv, hv0, hv1, _⟩ := pick_ev b hb p (net.length : Int) hp (by omega) (by omega)
    obtain ⟨m, rfl⟩ := Int.eq_ofNat_of_zero_le hv0
    have hat := hxb (x.length - 1) (by omega)
    obtain ⟨at', hAt⟩ := Int.eq_ofNat_of_zero_le hat.1
    obtain ⟨r, p', hr, h⟩ := inner m (by omega) at' (by omega) net.length 0 (by omega)
    refine ⟨r, p', ?_, h⟩
    have hw1 : wrap64 ((x.length : Int) - 1) = ((x.length - 1 : Nat) : Int) := by rw [w64 (by omega) (by omega)]; omega
    refine Ev.step (fun k => spec_l20Tour.l0.eq_2 ..) ?_
    simp only [hw1, rdn, hAt]
    clear hw1 hAt h inner
    simp (disch := omega) only [if_pos, if_neg, w64, rdn, rd0, tn, sc, Option.bind_some, ↓reduceIte, Bool.false_eq_true, Bool.true_eq_false]
    refine Ev.bind hv ?_
    exact hr
theorem l20Tour_ev (b : List Int) (hb : RdOk b) (net : List Int) (h6 : net.length ≤ 6) (p : Int) (hp : 0 ≤ p) (hp2 : p ≤ 9000) :
    ∃ r p', Ev (fun k => spec_l20Tour.f k b p net) (r, p') ∧ p ≤ p' ∧ p' ≤ p + 30 ∧ 1 ≤ r.length ∧ r.length ≤ 21 ∧ (∀ j, j < r.length → 0 ≤ G r j ∧ G r j < 7) := by
  unfold spec_l20Tour.f
  by_cases h0 : net.length = 0
  · refine ⟨[0], p, ?_, by omega, by omega, by simp, by simp, fun j hj => ?_⟩
    · simp (disch := omega) only [if_pos, if_neg, w64, rdn, rd0, tn, sc, Option.bind_some, ↓reduceIte, Bool.false_eq_true, Bool.true_eq_false]
      exact Ev.now _
    · simp at hj; subst hj; simp [G]
  · obtain ⟨v, hv, hv0, hv1, _⟩ := pick_ev b hb p (net.length : Int) hp (by omega) (by omega)
    obtain ⟨u, hu, hu0, hu1, _⟩ := pick_ev b hb (p + 1) 9 (by omega) (by omega) (by omega)
    obtain ⟨q, rfl⟩ := Int.eq_ofNat_of_zero_le hu0
    obtain ⟨r, p', hr, h2, h3, h4⟩ := l20Tour_l b hb net (by omega) h6 q [v] (p + 1 + 1) (by simp) (by simp; omega) (fun j hj => by simp at hj; subst hj; simp [G]; omega) (by omega) (by omega)
    refine ⟨r, p', ?_, by omega, by omega, h4⟩
    simp (disch := omega) only [if_pos, if_neg, w64, rdn, rd0, tn, sc, Option.bind_some, ↓reduceIte, Bool.false_eq_true, Bool.true_eq_false]
    refine Ev.bind hv ?_
    refine Ev.bind hu ?_
    exact hr

theorem DrawClimbOf_ev (l : List Int) (h : ∀ x ∈ l, (Lit.int .u8 x).wf = true) : ∃ net s t, Ev (fun k => spec_DrawClimbOf.f k l) (net, s, t) ∧ net.length ≤ 6 ∧ s.length ≤ 7 ∧ 1 ≤ t.length ∧ t.length ≤ 21 := by
  obtain ⟨b, hb, hR⟩ := spec_l20Open_eq l h
  obtain ⟨net, s, p, h1, hp1, hp2, h2, h3⟩ := l20Turn_ev b hR 14 0 (by omega) (by omega) (by omega) (by omega)
  obtain ⟨t, p2, ht, _, _, ht1, ht2, _⟩ := l20Tour_ev b hR net h2 p (by omega) (by omega)
  refine ⟨net, s, t, ?_, h2, h3, ht1, ht2⟩
  unfold spec_DrawClimbOf.f
  rw [hb]
  simp only [Option.bind_some]
  refine Ev.bind h1 ?_
  refine Ev.bind ht ?_
  exact Ev.now _

theorem impl_NetOk_l1 (l : List Int) (h6 : l.length ≤ 6) (i : Nat) (hi : i < l.length) (r : Bool)
    (hbad : ∀ k, k < l.length → ¬ (adj l i k ↔ adj l k i) → r = false)
    (hgood : (∀ k, k < l.length → (adj l i k ↔ adj l k i)) → Ev (fun k => impl_NetOk.l0 k l l (l.length : Int) ((i + 1 : Nat) : Int)) r) :
    ∀ (d : Nat) (j : Nat), l.length - j = d → j ≤ l.length → (∀ k, k < j → (adj l i k ↔ adj l k i)) →
      Ev (fun k => impl_NetOk.l1 k l (i : Int) (G l i) l (l.length : Int) (i : Int) (l.length : Int) (j : Int)) r := by
  intro d
  induction d with
  | zero =>
    intro j hd hj hk
    refine Ev.step (fun k => impl_NetOk.l1.eq_2 ..) ?_
    simp (disch := omega) only [if_pos, if_neg, w64, rdn, rd0, tn, sc, Option.bind_some, ↓reduceIte, Bool.false_eq_true, Bool.true_eq_false]
    exact hgood (fun k hkl => hk k (by omega))
  | succ d ih =>
    intro j hd hj hk
    refine Ev.step (fun k => impl_NetOk.l1.eq_2 ..) ?_
    have b1 := bit_and (G l i) (j := j) (by omega)
    have b2 := bit_and (G l j) (j := i) (by omega)
    have m1 := Int.emod_two_eq (G l i / 2 ^ j)
    have m2 := Int.emod_two_eq (G l j / 2 ^ i)
    by_cases e : adj l i j ↔ adj l j i
    · have e' : G l i / 2 ^ j % 2 = G l j / 2 ^ i % 2 := by
        unfold adj at e
        by_cases c : G l i / 2 ^ j % 2 = 1
        · rw [c, e.1 c]
        · have c2 := fun h => c (e.2 h)
          omega
      simp only [rdn, b1, b2]
      simp (disch := omega) only [if_pos, if_neg, w64, rdn, rd0, tn, sc, Option.bind_some, ↓reduceIte, Bool.false_eq_true, Bool.true_eq_false]
      refine ih _ (by omega) (by omega) ?_
      intro k hkj
      by_cases e' : k = j
      · subst e'; exact e
      · exact hk k (by omega)
    · have e' : ¬ G l i / 2 ^ j % 2 = G l j / 2 ^ i % 2 := by
        intro h
        apply e
        unfold adj
        rw [h]
      simp only [rdn, b1, b2]
      simp (disch := omega) only [if_pos, if_neg, w64, rdn, rd0, tn, sc, Option.bind_some, ↓reduceIte, Bool.false_eq_true, Bool.true_eq_false]
      exact Ev.val (hbad j (by omega) e).symm
theorem impl_NetOk_l0 (l : List Int) (h1 : 1 ≤ l.length) (h6 : l.length ≤ 6) : ∀ (d : Nat) (i : Nat), l.length - i = d → i ≤ l.length →
    (∀ j, j < i → (0 ≤ G l j ∧ G l j < 2 ^ l.length ∧ ¬ adj l j j ∧ ∀ k, k < l.length → (adj l j k ↔ adj l k j))) → Ev (fun k => impl_NetOk.l0 k l l (l.length : Int) (i : Int)) (decide (NetP l)) := by
  intro d
  induction d with
  | zero =>
    intro i hd hi hj
    refine Ev.step (fun k => impl_NetOk.l0.eq_2 ..) ?_
    simp (disch := omega) only [if_pos, if_neg, w64, rdn, rd0, tn, sc, Option.bind_some, ↓reduceIte, Bool.false_eq_true, Bool.true_eq_false]
    have : NetP l := ⟨h1, h6, fun j h => hj j (by omega)⟩
    exact Ev.val (by simp [this])
  | succ d ih =>
    intro i hd hi hj
    refine Ev.step (fun k => impl_NetOk.l0.eq_2 ..) ?_
    have hs := shl1 (n := l.length) (by omega)
    have hb := bit_and (G l i) (j := i) (by omega)
    simp only [rdn, hs, hb]
    have bad : ¬ (0 ≤ G l i ∧ G l i < 2 ^ l.length ∧ ¬ adj l i i) → decide (NetP l) = false := by
      intro h
      have : ¬ NetP l := fun p => h ⟨(p.2.2 i (by omega)).1, (p.2.2 i (by omega)).2.1, (p.2.2 i (by omega)).2.2.1⟩
      simp [this]
    by_cases e0 : G l i < 0
    · simp (disch := omega) only [if_pos, if_neg, w64, rdn, rd0, tn, sc, Option.bind_some, ↓reduceIte, Bool.false_eq_true, Bool.true_eq_false]
      refine Ev.step (fun k => impl_NetOk.j2.eq_2 ..) ?_
      simp (disch := omega) only [if_pos, if_neg, w64, rdn, rd0, tn, sc, Option.bind_some, ↓reduceIte, Bool.false_eq_true, Bool.true_eq_false]
      exact Ev.val (bad (by omega)).symm
    · by_cases e1 : G l i ≥ 2 ^ l.length
      · simp (disch := omega) only [if_pos, if_neg, w64, rdn, rd0, tn, sc, Option.bind_some, ↓reduceIte, Bool.false_eq_true, Bool.true_eq_false]
        refine Ev.step (fun k => impl_NetOk.j2.eq_2 ..) ?_
        simp (disch := omega) only [if_pos, if_neg, w64, rdn, rd0, tn, sc, Option.bind_some, ↓reduceIte, Bool.false_eq_true, Bool.true_eq_false]
        exact Ev.val (bad (by omega)).symm
      · simp (disch := omega) only [if_pos, if_neg, w64, rdn, rd0, tn, sc, Option.bind_some, ↓reduceIte, Bool.false_eq_true, Bool.true_eq_false]
        refine Ev.step (fun k => impl_NetOk.j2.eq_2 ..) ?_
        by_cases e2 : G l i / 2 ^ i % 2 = 1
        · have e3 : (G l i / 2 ^ i % 2 == 1) = true := by simp [e2]
          simp only [e3]
          simp (disch := omega) only [if_pos, if_neg, w64, rdn, rd0, tn, sc, Option.bind_some, ↓reduceIte, Bool.false_eq_true, Bool.true_eq_false]
          exact Ev.val (bad (fun h => h.2.2 e2)).symm
        · have e3 : (G l i / 2 ^ i % 2 == 1) = false := by simp [e2]
          simp only [e3]
          simp (disch := omega) only [if_pos, if_neg, w64, rdn, rd0, tn, sc, Option.bind_some, ↓reduceIte, Bool.false_eq_true, Bool.true_eq_false]
          refine impl_NetOk_l1 l h6 i (by omega) _ ?_ ?_ _ 0 rfl (by omega) (fun k h => by omega)
          · intro k hk hn
            have : ¬ NetP l := fun p => hn ((p.2.2 i (by omega)).2.2.2 k hk)
            simp [this]
          · intro hall
            refine ih _ (by omega) (by omega) ?_
            intro j hji
            by_cases e' : j = i
            · subst e'; exact ⟨by omega, by omega, e2, hall⟩
            · exact hj j (by omega)
theorem impl_NetOk_ev (l : List Int) (hl : l.length ≤ 1048576) : Ev (fun k => impl_NetOk.f k l) (decide (NetP l)) := by
  unfold impl_NetOk.f
  by_cases h1 : l.length < 1
  · simp (disch := omega) only [if_pos, if_neg, w64, rdn, rd0, tn, sc, Option.bind_some, ↓reduceIte, Bool.false_eq_true, Bool.true_eq_false]
    refine Ev.step (fun k => impl_NetOk.j0.eq_2 ..) ?_
    simp (disch := omega) only [if_pos, if_neg, w64, rdn, rd0, tn, sc, Option.bind_some, ↓reduceIte, Bool.false_eq_true, Bool.true_eq_false]
    have : ¬ NetP l := fun p => by have := p.1; omega
    exact Ev.val (by simp [this])
  · simp (disch := omega) only [if_pos, if_neg, w64, rdn, rd0, tn, sc, Option.bind_some, ↓reduceIte, Bool.false_eq_true, Bool.true_eq_false]
    refine Ev.step (fun k => impl_NetOk.j0.eq_2 ..) ?_
    by_cases h6 : l.length > 6
    · have : decide ((l.length : Int) > 6) = true := by simp; omega
      simp only [this]
      simp (disch := omega) only [if_pos, if_neg, w64, rdn, rd0, tn, sc, Option.bind_some, ↓reduceIte, Bool.false_eq_true, Bool.true_eq_false]
      have : ¬ NetP l := fun p => by have := p.2.1; omega
      exact Ev.val (by simp [this])
    · have : decide ((l.length : Int) > 6) = false := by simp; omega
      simp only [this]
      simp (disch := omega) only [if_pos, if_neg, w64, rdn, rd0, tn, sc, Option.bind_some, ↓reduceIte, Bool.false_eq_true, Bool.true_eq_false]
      exact impl_NetOk_l0 l (by omega) (by omega) _ 0 rfl (by omega) (fun j h => by omega)

theorem impl_TourOk_l0 (net t : List Int) (hn : NetP net) (h1 : 1 ≤ t.length) (h12 : t.length ≤ 12) : ∀ (d : Nat) (i : Nat), t.length - i = d → i ≤ t.length →
    (∀ j, j < i → 0 ≤ G t j ∧ G t j < net.length) → (∀ j, j + 1 < i → adj net (G t j).toNat (G t (j + 1)).toNat) → Ev (fun k => impl_TourOk.l0 k net t t (t.length : Int) (i : Int)) (decide (TourP net t)) := by
  intro d
  have hn6 := hn.2.1
  have hn1 := hn.1
  induction d with
  | zero =>
    intro i hd hi hj ha
    refine Ev.step (fun k => impl_TourOk.l0.eq_2 ..) ?_
    simp (disch := omega) only [if_pos, if_neg, w64, rdn, rd0, tn, sc, Option.bind_some, ↓reduceIte, Bool.false_eq_true, Bool.true_eq_false]
    have : TourP net t := ⟨hn, h1, h12, fun j h => hj j (by omega), fun j h => ha j (by omega)⟩
    exact Ev.val (by simp [this])
  | succ d ih =>
    intro i hd hi hj ha
    refine Ev.step (fun k => impl_TourOk.l0.eq_2 ..) ?_
    by_cases e : 0 ≤ G t i ∧ G t i < (net.length : Int)
    · obtain ⟨b, hb⟩ := Int.eq_ofNat_of_zero_le e.1
      by_cases i0 : i = 0
      · subst i0
        simp (disch := omega) only [if_pos, if_neg, w64, rdn, rd0, tn, sc, Option.bind_some, ↓reduceIte, Bool.false_eq_true, Bool.true_eq_false]
        refine ih 1 (by omega) (by omega) ?_ (fun j h => by omega)
        intro j hji
        obtain rfl : j = 0 := by omega
        omega
      · have hw1 : wrap64 ((i : Int) - 1) = ((i - 1 : Nat) : Int) := by rw [w64 (by omega) (by omega)]; omega
        have hp := hj (i - 1) (by omega)
        obtain ⟨a, hA⟩ := Int.eq_ofNat_of_zero_le hp.1
        have hbm := bit_and (G net a) (j := b) (by omega)
        simp only [hw1, rdn, hA, hb, hbm]
        have m1 := Int.emod_two_eq (G net a / 2 ^ b)
        by_cases e2 : G net a / 2 ^ b % 2 = 0
        · simp (disch := omega) only [if_pos, if_neg, w64, rdn, rd0, tn, sc, Option.bind_some, ↓reduceIte, Bool.false_eq_true, Bool.true_eq_false]
          have : ¬ TourP net t := fun p => by
            have h := p.2.2.2.2 (i - 1) (by omega)
            rw [show i - 1 + 1 = i from by omega, hA, hb] at h
            unfold adj at h; simp only [tn] at h; omega
          exact Ev.val (by simp [this])
        · simp (disch := omega) only [if_pos, if_neg, w64, rdn, rd0, tn, sc, Option.bind_some, ↓reduceIte, Bool.false_eq_true, Bool.true_eq_false]
          refine ih _ (by omega) (by omega) ?_ ?_
          · intro j hji
            by_cases e' : j = i
            · subst e'; omega
            · exact hj j (by omega)
          · intro j hji
            by_cases e' : j + 1 = i
            · obtain rfl : j = i - 1 := by omega
              rw [e', hA, hb]; unfold adj; simp only [tn]; omega
            · exact ha j (by omega)
    · have hf : ¬ TourP net t := fun p => by have := p.2.2.2.1 i (by omega); omega
      by_cases e0 : G t i < 0
      · simp (disch := omega) only [if_pos, if_neg, w64, rdn, rd0, tn, sc, Option.bind_some, ↓reduceIte, Bool.false_eq_true, Bool.true_eq_false]
        exact Ev.val (by simp [hf])
      · simp (disch := omega) only [if_pos, if_neg, w64, rdn, rd0, tn, sc, Option.bind_some, ↓reduceIte, Bool.false_eq_true, Bool.true_eq_false]
        exact Ev.val (by simp [hf])
theorem impl_TourOk_ev (net t : List Int) (hl : net.length ≤ 1048576) (ht : t.length ≤ 1048576) : Ev (fun k => impl_TourOk.f k net t) (decide (TourP net t)) := by
  unfold impl_TourOk.f
  refine Ev.bind (impl_NetOk_ev net hl) ?_
  by_cases hn : NetP net
  · simp only [hn, decide_true]
    by_cases h1 : t.length < 1
    · simp (disch := omega) only [if_pos, if_neg, w64, rdn, rd0, tn, sc, Option.bind_some, ↓reduceIte, Bool.false_eq_true, Bool.true_eq_false]
      refine Ev.step (fun k => impl_TourOk.j0.eq_2 ..) ?_
      simp (disch := omega) only [if_pos, if_neg, w64, rdn, rd0, tn, sc, Option.bind_some, ↓reduceIte, Bool.false_eq_true, Bool.true_eq_false]
      have : ¬ TourP net t := fun p => by have := p.2.1; omega
      exact Ev.val (by simp [this])
    · simp (disch := omega) only [if_pos, if_neg, w64, rdn, rd0, tn, sc, Option.bind_some, ↓reduceIte, Bool.false_eq_true, Bool.true_eq_false]
      refine Ev.step (fun k => impl_TourOk.j0.eq_2 ..) ?_
      by_cases h12 : t.length > 12
      · have e : decide ((t.length : Int) > 12) = true := by simp; omega
        simp only [e]
        simp (disch := omega) only [if_pos, if_neg, w64, rdn, rd0, tn, sc, Option.bind_some, ↓reduceIte, Bool.false_eq_true, Bool.true_eq_false]
        have : ¬ TourP net t := fun p => by have := p.2.2.1; omega
        exact Ev.val (by simp [this])
      · have e : decide ((t.length : Int) > 12) = false := by simp; omega
        simp only [e]
        simp (disch := omega) only [if_pos, if_neg, w64, rdn, rd0, tn, sc, Option.bind_some, ↓reduceIte, Bool.false_eq_true, Bool.true_eq_false]
        exact impl_TourOk_l0 net t hn (by omega) (by omega) _ 0 rfl (by omega) (fun j h => by omega) (fun j h => by omega)
  · simp only [hn, decide_false]
    simp (disch := omega) only [if_pos, if_neg, w64, rdn, rd0, tn, sc, Option.bind_some, ↓reduceIte, Bool.false_eq_true, Bool.true_eq_false]
    refine Ev.step (fun k => impl_TourOk.j0.eq_2 ..) ?_
    simp (disch := omega) only [if_pos, if_neg, w64, rdn, rd0, tn, sc, Option.bind_some, ↓reduceIte, Bool.false_eq_true, Bool.true_eq_false]
    have : ¬ TourP net t := fun p => hn p.1
    exact Ev.val (by simp [this])

theorem impl_StateOk_l0 (a : Int) (l : List Int) (hl : l.length ≤ 1048576) : ∀ (d : Nat) (i : Nat), l.length - i = d → i ≤ l.length → (∀ j, j < i → 0 ≤ G l j ∧ G l j < a) → Ev (fun k => impl_StateOk.l0 k a l l (l.length : Int) (i : Int)) (decide (StateP a l)) := by
  intro d
  induction d with
  | zero =>
    intro i hd hi hj
    refine Ev.step (fun k => impl_StateOk.l0.eq_2 ..) ?_
    obtain rfl : i = l.length := by omega
    by_cases h3 : 3 ≤ a
    · by_cases h5 : a ≤ 5
      · by_cases h1 : 1 ≤ l.length
        · simp (disch := omega) only [if_pos, if_neg, w64, rdn, rd0, tn, sc, Option.bind_some, ↓reduceIte, Bool.false_eq_true, Bool.true_eq_false]
          refine Ev.val ?_
          rw [decide_eq_decide]
          unfold StateP
          constructor
          · intro e; exact ⟨h3, h5, h1, by omega, hj⟩
          · intro e; have := e.2.2.2.1; omega
        · simp (disch := omega) only [if_pos, if_neg, w64, rdn, rd0, tn, sc, Option.bind_some, ↓reduceIte, Bool.false_eq_true, Bool.true_eq_false]
          refine Ev.val ?_
          have : ¬ StateP a l := fun p => h1 p.2.2.1
          simp [this]
      · simp (disch := omega) only [if_pos, if_neg, w64, rdn, rd0, tn, sc, Option.bind_some, ↓reduceIte, Bool.false_eq_true, Bool.true_eq_false]
        refine Ev.val ?_
        have : ¬ StateP a l := fun p => h5 p.2.1
        simp [this]
    · simp (disch := omega) only [if_pos, if_neg, w64, rdn, rd0, tn, sc, Option.bind_some, ↓reduceIte, Bool.false_eq_true, Bool.true_eq_false]
      refine Ev.val ?_
      have : ¬ StateP a l := fun p => h3 p.1
      simp [this]
  | succ d ih =>
    intro i hd hi hj
    refine Ev.step (fun k => impl_StateOk.l0.eq_2 ..) ?_
    by_cases e0 : G l i < 0
    · simp (disch := omega) only [if_pos, if_neg, w64, rdn, rd0, tn, sc, Option.bind_some, ↓reduceIte, Bool.false_eq_true, Bool.true_eq_false]
      refine Ev.val ?_
      have : ¬ StateP a l := fun p => by have := p.2.2.2.2 i (by omega); omega
      simp [this]
    · by_cases e1 : G l i ≥ a
      · simp (disch := omega) only [if_pos, if_neg, w64, rdn, rd0, tn, sc, Option.bind_some, ↓reduceIte, Bool.false_eq_true, Bool.true_eq_false]
        refine Ev.val ?_
        have : ¬ StateP a l := fun p => by have := p.2.2.2.2 i (by omega); omega
        simp [this]
      · simp (disch := omega) only [if_pos, if_neg, w64, rdn, rd0, tn, sc, Option.bind_some, ↓reduceIte, Bool.false_eq_true, Bool.true_eq_false]
        refine ih (i + 1) (by omega) (by omega) ?_
        intro j hji
        by_cases e' : j = i
        · subst e'; omega
        · exact hj j (by omega)
theorem impl_StateOk_ev (a : Int) (l : List Int) (hl : l.length ≤ 1048576) : Ev (fun k => impl_StateOk.f k a l) (decide (StateP a l)) := by
  unfold impl_StateOk.f
  exact impl_StateOk_l0 a l hl _ 0 rfl (by omega) (fun j h => by omega)

theorem impl_asked_ev (net s : List Int) (kinds : Int) (hn : net.length ≤ 1048576) (hs : s.length ≤ 1048576) : Ev (fun k => impl_asked.f k net kinds s) (decide (Asked net kinds s)) := by
  unfold impl_asked.f
  refine Ev.bind (impl_NetOk_ev net hn) ?_
  by_cases h1 : NetP net
  · simp only [h1, decide_true]
    simp (disch := omega) only [if_pos, if_neg, w64, rdn, rd0, tn, sc, Option.bind_some, ↓reduceIte, Bool.false_eq_true, Bool.true_eq_false]
    refine Ev.bind (impl_StateOk_ev kinds s hs) ?_
    by_cases h2 : StateP kinds s
    · simp only [h2, decide_true]
      simp (disch := omega) only [if_pos, if_neg, w64, rdn, rd0, tn, sc, Option.bind_some, ↓reduceIte, Bool.false_eq_true, Bool.true_eq_false]
      refine Ev.val ?_
      rw [Bool.eq_iff_iff, beq_iff_eq, decide_eq_true_eq]
      unfold Asked
      constructor
      · intro h; exact ⟨h1, h2, by omega⟩
      · intro h; have := h.2.2; omega
    · simp only [h2, decide_false]
      simp (disch := omega) only [if_pos, if_neg, w64, rdn, rd0, tn, sc, Option.bind_some, ↓reduceIte, Bool.false_eq_true, Bool.true_eq_false]
      have : ¬ Asked net kinds s := fun h => h2 h.2.1
      exact Ev.val (by simp [this])
  · simp only [h1, decide_false]
    simp (disch := omega) only [if_pos, if_neg, w64, rdn, rd0, tn, sc, Option.bind_some, ↓reduceIte, Bool.false_eq_true, Bool.true_eq_false]
    have : ¬ Asked net kinds s := fun h => h1 h.1
    exact Ev.val (by simp [this])

theorem impl_rise_eq (l : List Int) (hl : ∀ i, i < l.length → 0 ≤ G l i ∧ G l i < 3) {i j : Nat} (hi : i < l.length) (hj : j < l.length) : impl_rise.f l (i : Int) (j : Int) = some (rise (G l i) (G l j)) := by
  have ha := hl i hi
  have hb := hl j hj
  unfold impl_rise.f
  have h1 : wrap64 (G l j - G l i) = G l j - G l i := w64 (by omega) (by omega)
  have h2 : wrap64 (G l j - G l i + 3) = G l j - G l i + 3 := w64 (by omega) (by omega)
  have h3 : Int.tmod (G l j - G l i + 3) 3 = (G l j - G l i + 3) % 3 := tmod_nn (by omega)
  simp only [rdn, h1, h2, h3]
  unfold rise
  by_cases e1 : (G l j - G l i + 3) % 3 = 1
  · simp (disch := omega) only [if_pos, if_neg, w64, rdn, rd0, tn, sc, Option.bind_some, ↓reduceIte, Bool.false_eq_true, Bool.true_eq_false]
    congr 1; omega
  · by_cases e2 : (G l j - G l i + 3) % 3 = 2
    · simp (disch := omega) only [if_pos, if_neg, w64, rdn, rd0, tn, sc, Option.bind_some, ↓reduceIte, Bool.false_eq_true, Bool.true_eq_false]
      congr 1; omega
    · simp (disch := omega) only [if_pos, if_neg, w64, rdn, rd0, tn, sc, Option.bind_some, ↓reduceIte, Bool.false_eq_true, Bool.true_eq_false]
      congr 1; omega

-- needs Tour
theorem impl_ClimbOf_l0 (net s t : List Int) (h : ClimbP net s t) : ∀ (d i : Nat), t.length - 1 - i = d → i ≤ t.length - 1 →
    Ev (fun k => impl_ClimbOf.l0 k s t (climbTo s t i) ((i + 1 : Nat) : Int)) (climb s t, true) := by
  intro d
  have h1 := h.2.2.1
  have h12 := h.2.2.2.1
  have hl := h.1.2.2
  induction d with
  | zero =>
    intro i hd hi
    refine Ev.step (fun k => impl_ClimbOf.l0.eq_2 ..) ?_
    simp (disch := omega) only [if_pos, if_neg, w64, rdn, rd0, tn, sc, Option.bind_some, ↓reduceIte, Bool.false_eq_true, Bool.true_eq_false]
    exact Ev.val (by unfold climb; rw [show i = t.length - 1 from by omega])
  | succ d ih =>
    intro i hd hi
    refine Ev.step (fun k => impl_ClimbOf.l0.eq_2 ..) ?_
    have hb := climbTo_bd s t i
    have hw : wrap64 (((i + 1 : Nat) : Int) - 1) = (i : Int) := by rw [w64 (by omega) (by omega)]; omega
    have b1 := h.2.2.2.2.1 i (by omega)
    have b2 := h.2.2.2.2.1 (i + 1) (by omega)
    obtain ⟨a, ha⟩ := Int.eq_ofNat_of_zero_le b1.1
    obtain ⟨b, hb'⟩ := Int.eq_ofNat_of_zero_le b2.1
    have er := impl_rise_eq s h.1.2.1.2.2.2.2 (show a < s.length by omega) (show b < s.length by omega)
    have hr := rise_bound (G s a) (G s b)
    have hn := ih (i + 1) (by omega) (by omega)
    rw [climbTo_succ, ha, hb'] at hn
    simp only [tn] at hn
    simp only [hw, rdn, ha, hb', er, Option.bind_some]
    clear hw er
    simp (disch := omega) only [if_pos, if_neg, w64, rdn, rd0, tn, sc, Option.bind_some, ↓reduceIte, Bool.false_eq_true, Bool.true_eq_false]
    exact hn
theorem impl_ClimbOf_ev (net s t : List Int) (hn : net.length ≤ 1048576) (hs : s.length ≤ 1048576) (ht : t.length ≤ 1048576) : Ev (fun k => impl_ClimbOf.f k net s t) (climbOf net s t) := by
  unfold impl_ClimbOf.f
  refine Ev.bind (impl_TourOk_ev net t hn ht) ?_
  by_cases h2 : TourP net t
  · simp only [h2, decide_true]
    simp (disch := omega) only [if_pos, if_neg, w64, rdn, rd0, tn, sc, Option.bind_some, ↓reduceIte, Bool.false_eq_true, Bool.true_eq_false]
    refine Ev.bind (impl_asked_ev net s 3 hn hs) ?_
    by_cases h : Asked net 3 s
    · simp only [h, decide_true, Bool.not_true]
      rw [climbOf_yes ⟨h, h2⟩]
      refine Ev.step (fun k => impl_ClimbOf.j0.eq_2 ..) ?_
      simp (disch := omega) only [if_pos, if_neg, w64, rdn, rd0, tn, sc, Option.bind_some, ↓reduceIte, Bool.false_eq_true, Bool.true_eq_false]
      exact impl_ClimbOf_l0 net s t ⟨h, h2⟩ _ 0 rfl (by omega)
    · simp only [h, decide_false, Bool.not_false]
      rw [climbOf_no (fun g => h g.1)]
      refine Ev.step (fun k => impl_ClimbOf.j0.eq_2 ..) ?_
      simp (disch := omega) only [if_pos, if_neg, w64, rdn, rd0, tn, sc, Option.bind_some, ↓reduceIte, Bool.false_eq_true, Bool.true_eq_false]
      exact Ev.now _
  · simp only [h2, decide_false]
    rw [climbOf_no (fun g => h2 g.2)]
    simp (disch := omega) only [if_pos, if_neg, w64, rdn, rd0, tn, sc, Option.bind_some, ↓reduceIte, Bool.false_eq_true, Bool.true_eq_false]
    refine Ev.step (fun k => impl_ClimbOf.j0.eq_2 ..) ?_
    simp (disch := omega) only [if_pos, if_neg, w64, rdn, rd0, tn, sc, Option.bind_some, ↓reduceIte, Bool.false_eq_true, Bool.true_eq_false]
    exact Ev.now _

theorem alive_ev : Ev (fun k => laws_alive.f k) true := by
  unfold laws_alive.f
  refine Ev.bind (impl_NetOk_ev _ (by decide)) ?_
  have e1 : decide (NetP [2, 1]) = true := by decide
  simp only [e1]
  simp (disch := omega) only [if_pos, if_neg, w64, rdn, rd0, tn, sc, Option.bind_some, ↓reduceIte, Bool.false_eq_true, Bool.true_eq_false]
  refine Ev.bind (impl_NetOk_ev _ (by decide)) ?_
  have e2 : decide (NetP [1]) = false := by decide
  simp only [e2, Bool.not_false]
  exact Ev.now _

theorem spec_NetOk_l2 (l : List Int) (h6 : l.length ≤ 6) (hr : ∀ j, j < l.length → 0 ≤ G l j ∧ G l j < 2 ^ l.length) (i : Nat) (hi : i < l.length) (r : Bool)
    (hbad : ∀ k, k < l.length → ¬ ((adj l i k ↔ adj l k i) ∧ ¬ (k = i ∧ adj l i i)) → r = false)
    (hgood : (∀ k, k < l.length → (adj l i k ↔ adj l k i)) → ¬ adj l i i → Ev (fun k => spec_NetOk.l1 k l ((i + 1 : Nat) : Int)) r) :
    ∀ (d : Nat) (j : Nat), l.length - j = d → j ≤ l.length → (∀ k, k < j → (adj l i k ↔ adj l k i) ∧ ¬ (k = i ∧ adj l i i)) →
      Ev (fun k => spec_NetOk.l2 k l (i : Int) (j : Int)) r := by
  intro d
  induction d with
  | zero =>
    intro j hd hj hk
    refine Ev.step (fun k => spec_NetOk.l2.eq_2 ..) ?_
    simp (disch := omega) only [if_pos, if_neg, w64, rdn, rd0, tn, sc, Option.bind_some, ↓reduceIte, Bool.false_eq_true, Bool.true_eq_false]
    exact hgood (fun k hkl => (hk k (by omega)).1) (fun h => (hk i (by omega)).2 ⟨rfl, h⟩)
  | succ d ih =>
    intro j hd hj hk
    refine Ev.step (fun k => spec_NetOk.l2.eq_2 ..) ?_
    have b1 := bit_mod (G l i) (j := j) (by omega) (hr i hi).1
    have b2 := bit_mod (G l j) (j := i) (by omega) (hr j (by omega)).1
    have m1 := Int.emod_two_eq (G l i / 2 ^ j)
    have m2 := Int.emod_two_eq (G l j / 2 ^ i)
    by_cases e : adj l i j ↔ adj l j i
    · have e' : G l i / 2 ^ j % 2 = G l j / 2 ^ i % 2 := by
        unfold adj at e
        by_cases c : G l i / 2 ^ j % 2 = 1
        · rw [c, e.1 c]
        · have c2 := fun h => c (e.2 h)
          omega
      simp only [rdn, b1, b2]
      by_cases eji : j = i
      · by_cases ea : G l i / 2 ^ j % 2 = 1
        · simp (disch := omega) only [if_pos, if_neg, w64, rdn, rd0, tn, sc, Option.bind_some, ↓reduceIte, Bool.false_eq_true, Bool.true_eq_false]
          refine Ev.val (hbad j (by omega) (fun h => h.2 ⟨eji, ?_⟩)).symm
          rw [eji] at ea; exact ea
        · simp (disch := omega) only [if_pos, if_neg, w64, rdn, rd0, tn, sc, Option.bind_some, ↓reduceIte, Bool.false_eq_true, Bool.true_eq_false]
          refine ih _ (by omega) (by omega) ?_
          intro k hkj
          by_cases e'' : k = j
          · subst e''; refine ⟨e, fun h => ea ?_⟩; have := h.2; rw [eji]; exact this
          · exact hk k (by omega)
      · simp (disch := omega) only [if_pos, if_neg, w64, rdn, rd0, tn, sc, Option.bind_some, ↓reduceIte, Bool.false_eq_true, Bool.true_eq_false]
        refine ih _ (by omega) (by omega) ?_
        intro k hkj
        by_cases e'' : k = j
        · subst e''; exact ⟨e, fun h => eji h.1⟩
        · exact hk k (by omega)
    · have e' : ¬ G l i / 2 ^ j % 2 = G l j / 2 ^ i % 2 := by
        intro h
        apply e
        unfold adj
        rw [h]
      simp only [rdn, b1, b2]
      simp (disch := omega) only [if_pos, if_neg, w64, rdn, rd0, tn, sc, Option.bind_some, ↓reduceIte, Bool.false_eq_true, Bool.true_eq_false]
      exact Ev.val (hbad j (by omega) (fun h => e h.1)).symm
theorem spec_NetOk_l1 (l : List Int) (h1 : 1 ≤ l.length) (h6 : l.length ≤ 6) (hr : ∀ j, j < l.length → 0 ≤ G l j ∧ G l j < 2 ^ l.length) : ∀ (d : Nat) (i : Nat), l.length - i = d → i ≤ l.length →
    (∀ j, j < i → (¬ adj l j j ∧ ∀ k, k < l.length → (adj l j k ↔ adj l k j))) → Ev (fun k => spec_NetOk.l1 k l (i : Int)) (decide (NetP l)) := by
  intro d
  induction d with
  | zero =>
    intro i hd hi hj
    refine Ev.step (fun k => spec_NetOk.l1.eq_2 ..) ?_
    simp (disch := omega) only [if_pos, if_neg, w64, rdn, rd0, tn, sc, Option.bind_some, ↓reduceIte, Bool.false_eq_true, Bool.true_eq_false]
    have : NetP l := ⟨h1, h6, fun j h => ⟨(hr j h).1, (hr j h).2, (hj j (by omega)).1, (hj j (by omega)).2⟩⟩
    exact Ev.val (by simp [this])
  | succ d ih =>
    intro i hd hi hj
    refine Ev.step (fun k => spec_NetOk.l1.eq_2 ..) ?_
    simp (disch := omega) only [if_pos, if_neg, w64, rdn, rd0, tn, sc, Option.bind_some, ↓reduceIte, Bool.false_eq_true, Bool.true_eq_false]
    refine spec_NetOk_l2 l h6 hr i (by omega) _ ?_ ?_ _ 0 rfl (by omega) (fun k h => by omega)
    · intro k hk hn
      have : ¬ NetP l := fun p => hn ⟨(p.2.2 i (by omega)).2.2.2 k hk, fun h => (p.2.2 i (by omega)).2.2.1 h.2⟩
      simp [this]
    · intro hall hirr
      refine ih _ (by omega) (by omega) ?_
      intro j hji
      by_cases e' : j = i
      · subst e'; exact ⟨hirr, hall⟩
      · exact hj j (by omega)
theorem spec_NetOk_l0 (l : List Int) (h1 : 1 ≤ l.length) (h6 : l.length ≤ 6) : ∀ (d : Nat) (i : Nat), l.length - i = d → i ≤ l.length →
    (∀ j, j < i → 0 ≤ G l j ∧ G l j < 2 ^ l.length) → Ev (fun k => spec_NetOk.l0 k l (i : Int)) (decide (NetP l)) := by
  intro d
  induction d with
  | zero =>
    intro i hd hi hj
    refine Ev.step (fun k => spec_NetOk.l0.eq_2 ..) ?_
    simp (disch := omega) only [if_pos, if_neg, w64, rdn, rd0, tn, sc, Option.bind_some, ↓reduceIte, Bool.false_eq_true, Bool.true_eq_false]
    exact spec_NetOk_l1 l h1 h6 (fun j h => hj j (by omega)) _ 0 rfl (by omega) (fun j h => by omega)
  | succ d ih =>
    intro i hd hi hj
    refine Ev.step (fun k => spec_NetOk.l0.eq_2 ..) ?_
    have hs := shl1 (n := l.length) (by omega)
    have hp := pow_lt63 (n := l.length) (by omega)
    have hq := pow_pos2 l.length
    have hw : wrap64 ((2 : Int) ^ l.length - 1) = 2 ^ l.length - 1 := w64 (by omega) (by omega)
    simp only [rdn, hs, hw, spec_l1In_eq, Option.bind_some]
    by_cases e : 0 ≤ G l i ∧ G l i ≤ 2 ^ l.length - 1
    · simp only [e, and_self, decide_true]
      simp (disch := omega) only [if_pos, if_neg, w64, rdn, rd0, tn, sc, Option.bind_some, ↓reduceIte, Bool.false_eq_true, Bool.true_eq_false]
      refine ih _ (by omega) (by omega) ?_
      intro j hji
      by_cases e' : j = i
      · subst e'; omega
      · exact hj j (by omega)
    · simp only [e, decide_false]
      simp (disch := omega) only [if_pos, if_neg, w64, rdn, rd0, tn, sc, Option.bind_some, ↓reduceIte, Bool.false_eq_true, Bool.true_eq_false]
      have : ¬ NetP l := fun p => e ⟨(p.2.2 i (by omega)).1, by have := (p.2.2 i (by omega)).2.1; omega⟩
      exact Ev.val (by simp [this])
theorem spec_NetOk_ev (l : List Int) (hl : l.length ≤ 1048576) : Ev (fun k => spec_NetOk.f k l) (decide (NetP l)) := by
  unfold spec_NetOk.f
  simp only [spec_l1In_eq, Option.bind_some]
  by_cases h : 1 ≤ l.length ∧ l.length ≤ 6
  · have h' : (1 : Int) ≤ (l.length : Int) ∧ (l.length : Int) ≤ 6 := by omega
    simp only [h', and_self, decide_true]
    simp (disch := omega) only [if_pos, if_neg, w64, rdn, rd0, tn, sc, Option.bind_some, ↓reduceIte, Bool.false_eq_true, Bool.true_eq_false]
    exact spec_NetOk_l0 l h.1 h.2 _ 0 rfl (by omega) (fun j h => by omega)
  · have h' : ¬ ((1 : Int) ≤ (l.length : Int) ∧ (l.length : Int) ≤ 6) := by omega
    simp only [h', decide_false]
    simp (disch := omega) only [if_pos, if_neg, w64, rdn, rd0, tn, sc, Option.bind_some, ↓reduceIte, Bool.false_eq_true, Bool.true_eq_false]
    have : ¬ NetP l := fun p => h ⟨p.1, p.2.1⟩
    exact Ev.val (by simp [this])

theorem spec_StateOk_l0 (a : Int) (l : List Int) (hl : l.length ≤ 1048576) : ∀ (d : Nat) (i : Nat), l.length - i = d → i ≤ l.length → (∀ j, j < i → 0 ≤ G l j ∧ G l j < a) → Ev (fun k => spec_StateOk.l0 k a l (i : Int)) (decide (StateP a l)) := by
  intro d
  induction d with
  | zero =>
    intro i hd hi hj
    refine Ev.step (fun k => spec_StateOk.l0.eq_2 ..) ?_
    simp only [spec_l1In_eq, Option.bind_some]
    obtain rfl : i = l.length := by omega
    by_cases h : 3 ≤ a ∧ a ≤ 5
    · simp only [h, and_self, decide_true]
      simp (disch := omega) only [if_pos, if_neg, w64, rdn, rd0, tn, sc, Option.bind_some, ↓reduceIte, Bool.false_eq_true, Bool.true_eq_false]
      refine Ev.val ?_
      rw [decide_eq_decide]
      unfold StateP
      constructor
      · intro e; exact ⟨h.1, h.2, by omega, by omega, hj⟩
      · intro e; have := e.2.2.1; have := e.2.2.2.1; omega
    · simp only [h, decide_false]
      simp (disch := omega) only [if_pos, if_neg, w64, rdn, rd0, tn, sc, Option.bind_some, ↓reduceIte, Bool.false_eq_true, Bool.true_eq_false]
      refine Ev.val ?_
      have : ¬ StateP a l := fun p => h ⟨p.1, p.2.1⟩
      simp [this]
  | succ d ih =>
    intro i hd hi hj
    refine Ev.step (fun k => spec_StateOk.l0.eq_2 ..) ?_
    by_cases e0 : G l i < 0
    · simp (disch := omega) only [if_pos, if_neg, w64, rdn, rd0, tn, sc, Option.bind_some, ↓reduceIte, Bool.false_eq_true, Bool.true_eq_false]
      refine Ev.val ?_
      have : ¬ StateP a l := fun p => by have := p.2.2.2.2 i (by omega); omega
      simp [this]
    · by_cases e1 : G l i ≥ a
      · simp (disch := omega) only [if_pos, if_neg, w64, rdn, rd0, tn, sc, Option.bind_some, ↓reduceIte, Bool.false_eq_true, Bool.true_eq_false]
        refine Ev.val ?_
        have : ¬ StateP a l := fun p => by have := p.2.2.2.2 i (by omega); omega
        simp [this]
      · simp (disch := omega) only [if_pos, if_neg, w64, rdn, rd0, tn, sc, Option.bind_some, ↓reduceIte, Bool.false_eq_true, Bool.true_eq_false]
        refine ih (i + 1) (by omega) (by omega) ?_
        intro j hji
        by_cases e' : j = i
        · subst e'; omega
        · exact hj j (by omega)
theorem spec_StateOk_ev (a : Int) (l : List Int) (hl : l.length ≤ 1048576) : Ev (fun k => spec_StateOk.f k a l) (decide (StateP a l)) := by
  unfold spec_StateOk.f
  exact spec_StateOk_l0 a l hl _ 0 rfl (by omega) (fun j h => by omega)

-- needs Tour
theorem climb4 (s : List Int) (i j l : Nat) : climb s [(i : Int), (j : Int), (l : Int), (i : Int)] = rise (G s i) (G s j) + rise (G s j) (G s l) + rise (G s l) (G s i) := by
  show (0 : Int) + rise (G s i) (G s j) + rise (G s j) (G s l) + rise (G s l) (G s i) = _
  omega
theorem tour4 {net : List Int} (hn : NetP net) {i j l : Nat} (hi : i < net.length) (hj : j < net.length) (hl : l < net.length) (h1 : adj net i j) (h2 : adj net j l) (h3 : adj net i l) : TourP net [(i : Int), (j : Int), (l : Int), (i : Int)] := by
  have h4 := (adj_sym hn hi hl).1 h3
  refine ⟨hn, (by decide : 1 ≤ 4), (by decide : 4 ≤ 12), fun q hq => ?_, fun q hq => ?_⟩
  · have hq4 : q < 4 := hq
    have e : q = 0 ∨ q = 1 ∨ q = 2 ∨ q = 3 := by omega
    rcases e with rfl | rfl | rfl | rfl
    · show 0 ≤ (i : Int) ∧ (i : Int) < net.length; omega
    · show 0 ≤ (j : Int) ∧ (j : Int) < net.length; omega
    · show 0 ≤ (l : Int) ∧ (l : Int) < net.length; omega
    · show 0 ≤ (i : Int) ∧ (i : Int) < net.length; omega
  · have hq4 : q + 1 < 4 := hq
    have e : q = 0 ∨ q = 1 ∨ q = 2 := by omega
    rcases e with rfl | rfl | rfl
    · exact h1
    · exact h2
    · exact h4
theorem FnClimbRound_j4 (net s : List Int) (h : Asked net 3 s) (i j l : Nat) (hij : j < i) (hjl : l < j) (hi : i < s.length) (b : Bool) (hb : b = false → adj net i j ∧ adj net j l ∧ adj net i l)
    (hnext : Ev (fun k => laws_FnClimbRound.l2 k net s (i : Int) (j : Int) ((l + 1 : Nat) : Int)) true) : Ev (fun k => laws_FnClimbRound.j4 k net s (i : Int) (j : Int) (l : Int) b) true := by
  have h6 := asked6 h
  have hl := h.2.2
  have hw : wrap64 ((l : Int) + 1) = ((l + 1 : Nat) : Int) := w64 (by omega) (by omega)
  refine Ev.step (fun k => laws_FnClimbRound.j4.eq_2 ..) ?_
  cases b with
  | true =>
    simp only [if_true, hw]
    exact hnext
  | false =>
    obtain ⟨a1, a2, a3⟩ := hb rfl
    have hT := tour4 h.1 (show i < net.length by omega) (show j < net.length by omega) (show l < net.length by omega) a1 a2 a3
    simp only [Bool.false_eq_true, if_false, hw]
    refine Ev.bind (impl_ClimbOf_ev net s _ (by omega) (by omega) (by show 4 ≤ 1048576; decide)) ?_
    rw [climbOf_yes ⟨h, hT⟩, climb4]
    have k1 := h.2.1.2.2.2.2 i hi
    have k2 := h.2.1.2.2.2.2 j (by omega)
    have k3 := h.2.1.2.2.2.2 l (by omega)
    have c1 : 0 ≤ (i : Int) := by omega
    have c2 : (i : Int) < (s.length : Int) := by omega
    have c3 : 0 ≤ (j : Int) := by omega
    have c4 : (j : Int) < (s.length : Int) := by omega
    have c5 : 0 ≤ (l : Int) := by omega
    have c6 : (l : Int) < (s.length : Int) := by omega
    have t0 : Int.tmod 0 3 = 0 := by decide
    have t3 : Int.tmod 3 3 = 0 := by decide
    have t4 : Int.tmod (-3) 3 = 0 := by decide
    have o1 : ¬ (0 : Int) > 3 := by decide
    have o2 : ¬ (0 : Int) < -3 := by decide
    have o3 : ¬ (3 : Int) > 3 := by decide
    have o4 : ¬ (3 : Int) < -3 := by decide
    have o5 : ¬ (-3 : Int) > 3 := by decide
    have o6 : ¬ (-3 : Int) < -3 := by decide
    have z0 : ((0 : Int) == 0) = true := by decide
    have z3 : ((3 : Int) == 0) = false := by decide
    have z4 : ((-3 : Int) == 0) = false := by decide
    have b1 : (true != true) = false := rfl
    have b2 : (false != false) = false := rfl
    simp only [c1, c2, c3, c4, c5, c6, if_true, rdn]
    clear c1 c2 c3 c4 c5 c6
    by_cases e1 : G s i = G s j
    · have hz : rise (G s i) (G s j) + rise (G s j) (G s l) + rise (G s l) (G s i) = 0 := by unfold rise; omega
      rw [hz]
      simp only [e1, if_true, t0, o1, o2, if_false, z0, b1, Bool.false_eq_true]
      exact hnext
    · by_cases e2 : G s j = G s l
      · have hz : rise (G s i) (G s j) + rise (G s j) (G s l) + rise (G s l) (G s i) = 0 := by unfold rise; omega
        rw [hz]
        simp only [e1, e2, if_true, t0, o1, o2, if_false, z0, b1, Bool.false_eq_true]
        have e1' : ¬ G s i = G s l := by omega
        simp only [e1', if_false]
        exact hnext
      · by_cases e3 : G s i = G s l
        · have hz : rise (G s i) (G s j) + rise (G s j) (G s l) + rise (G s l) (G s i) = 0 := by unfold rise; omega
          have e4 : (G s i == G s l) = true := beq_iff_eq.2 e3
          rw [hz]
          simp only [e1, e2, e4, if_true, t0, o1, o2, if_false, z0, b1, Bool.false_eq_true]
          exact hnext
        · have hz : rise (G s i) (G s j) + rise (G s j) (G s l) + rise (G s l) (G s i) = 3 ∨ rise (G s i) (G s j) + rise (G s j) (G s l) + rise (G s l) (G s i) = -3 := by unfold rise; omega
          have e4 : (G s i == G s l) = false := beq_eq_false_iff_ne.2 e3
          rcases hz with hz | hz
          · rw [hz]
            simp only [e1, e2, e4, if_true, t3, o3, o4, if_false, z3, b2, Bool.false_eq_true]
            exact hnext
          · rw [hz]
            simp only [e1, e2, e4, if_true, t4, o5, o6, if_false, z4, b2, Bool.false_eq_true]
            exact hnext
theorem FnClimbRound_l2 (net s : List Int) (h : Asked net 3 s) (i j : Nat) (hij : j < i) (hi : i < s.length)
    (hnext : Ev (fun k => laws_FnClimbRound.l1 k net s (i : Int) ((j + 1 : Nat) : Int)) true) : ∀ (d l : Nat), l + d = j → Ev (fun k => laws_FnClimbRound.l2 k net s (i : Int) (j : Int) (l : Int)) true := by
  intro d
  have h6 := asked6 h
  have hl := h.2.2
  induction d with
  | zero =>
    intro l hd
    obtain rfl : l = j := by omega
    have hw : wrap64 ((l : Int) + 1) = ((l + 1 : Nat) : Int) := w64 (by omega) (by omega)
    refine Ev.step (fun k => laws_FnClimbRound.l2.eq_2 ..) ?_
    have e0 : ¬ ((l : Int) < (l : Int)) := by omega
    simp only [e0, if_false, hw]
    exact hnext
  | succ d ih =>
    intro l hd
    have hn1 := ih (l + 1) (by omega)
    have hj := fun b hb => FnClimbRound_j4 net s h i j l hij (by omega) hi b hb hn1
    refine Ev.step (fun k => laws_FnClimbRound.l2.eq_2 ..) ?_
    have m1 := bit_mod (G net i) (j := j) (by omega) (h.1.2.2 i (by omega)).1
    have m2 := bit_mod (G net j) (j := l) (by omega) (h.1.2.2 j (by omega)).1
    have m3 := bit_mod (G net i) (j := l) (by omega) (h.1.2.2 i (by omega)).1
    have c0 : (l : Int) < (j : Int) := by omega
    have c1 : 0 ≤ (i : Int) := by omega
    have c2 : (i : Int) < (net.length : Int) := by omega
    have c3 : 0 ≤ (j : Int) := by omega
    have c4 : (j : Int) < (net.length : Int) := by omega
    have c5 : 0 ≤ (l : Int) := by omega
    simp only [c0, c1, c2, c3, c4, c5, if_true, rdn, m1, m2, m3]
    clear c0 c1 c2 c3 c4 c5 m1 m2 m3
    by_cases a1 : G net i / 2 ^ j % 2 = 0
    · simp only [a1, if_true]
      exact hj true (fun e => by cases e)
    · by_cases a2 : G net j / 2 ^ l % 2 = 0
      · simp only [a1, a2, if_true, if_false]
        exact hj true (fun e => by cases e)
      · simp only [a1, a2, if_false]
        refine hj _ (fun e => ?_)
        have a3 := beq_eq_false_iff_ne.1 e
        have q1 := Int.emod_two_eq (G net i / 2 ^ j)
        have q2 := Int.emod_two_eq (G net j / 2 ^ l)
        have q3 := Int.emod_two_eq (G net i / 2 ^ l)
        exact ⟨q1.resolve_left a1, q2.resolve_left a2, q3.resolve_left a3⟩
theorem FnClimbRound_l1 (net s : List Int) (h : Asked net 3 s) (i : Nat) (hi : i < s.length)
    (hnext : Ev (fun k => laws_FnClimbRound.l0 k net s ((i + 1 : Nat) : Int)) true) : ∀ (d j : Nat), j + d = i → Ev (fun k => laws_FnClimbRound.l1 k net s (i : Int) (j : Int)) true := by
  intro d
  have h6 := asked6 h
  induction d with
  | zero =>
    intro j hd
    obtain rfl : j = i := by omega
    have hw : wrap64 ((j : Int) + 1) = ((j + 1 : Nat) : Int) := w64 (by omega) (by omega)
    refine Ev.step (fun k => laws_FnClimbRound.l1.eq_2 ..) ?_
    have e0 : ¬ ((j : Int) < (j : Int)) := by omega
    simp only [e0, if_false, hw]
    exact hnext
  | succ d ih =>
    intro j hd
    refine Ev.step (fun k => laws_FnClimbRound.l1.eq_2 ..) ?_
    have c0 : (j : Int) < (i : Int) := by omega
    simp only [c0, if_true]
    exact FnClimbRound_l2 net s h i j (by omega) hi (ih (j + 1) (by omega)) j 0 (by omega)
theorem FnClimbRound_l0 (net s : List Int) (h : Asked net 3 s) : ∀ (d i : Nat), i + d = s.length → Ev (fun k => laws_FnClimbRound.l0 k net s (i : Int)) true := by
  intro d
  have h6 := asked6 h
  have hl := h.2.2
  induction d with
  | zero =>
    intro i hd
    refine Ev.step (fun k => laws_FnClimbRound.l0.eq_2 ..) ?_
    have e0 : ¬ ((i : Int) < (net.length : Int)) := by omega
    simp only [e0, if_false]
    refine Ev.bind alive_ev ?_
    exact Ev.now _
  | succ d ih =>
    intro i hd
    refine Ev.step (fun k => laws_FnClimbRound.l0.eq_2 ..) ?_
    have c0 : (i : Int) < (net.length : Int) := by omega
    simp only [c0, if_true]
    exact FnClimbRound_l1 net s h i (by omega) (ih (i + 1) (by omega)) i 0 (by omega)
theorem FnClimbRound_no (net s : List Int) : Ev (fun k => laws_FnClimbRound.j0 k net s true) true := by
  refine Ev.step (fun k => laws_FnClimbRound.j0.eq_2 ..) ?_
  simp only [if_true]
  refine Ev.bind alive_ev ?_
  exact Ev.now _
theorem FnClimbRound : laws_FnClimbRound.Pure := by
  intro l _ _ hwf
  refine Ev.rounds (r := true) ?_
  obtain ⟨net, s, t, hr, h6, h7, ht1, ht2⟩ := DrawClimbOf_ev l hwf
  unfold laws_FnClimbRound.f
  by_cases hl : l.length ≤ 1048576
  · simp only [show ¬ (l.length : Int) > 1048576 by omega, if_false]
    refine Ev.bind hr ?_
    refine Ev.bind (spec_NetOk_ev net (by omega)) ?_
    by_cases hn : NetP net
    · simp only [hn, decide_true, if_true]
      refine Ev.bind (spec_StateOk_ev 3 s (by omega)) ?_
      by_cases hs : StateP 3 s
      · simp only [hs, decide_true, if_true]
        by_cases e : net.length = s.length
        · have e1 : ((s.length : Int) != (net.length : Int)) = false := by rw [e]; exact bne_self_eq_false _
          rw [e1]
          refine Ev.step (fun k => laws_FnClimbRound.j0.eq_2 ..) ?_
          simp only [Bool.false_eq_true, if_false]
          exact FnClimbRound_l0 net s ⟨hn, hs, e⟩ s.length 0 (by omega)
        · have e1 : ((s.length : Int) != (net.length : Int)) = true := bne_iff_ne.2 (by omega)
          rw [e1]
          exact FnClimbRound_no net s
      · simp only [hs, decide_false, Bool.false_eq_true, if_false]
        exact FnClimbRound_no net s
    · simp only [hn, decide_false, Bool.false_eq_true, if_false]
      exact FnClimbRound_no net s
  · simp (disch := omega) only [if_pos, if_neg, w64, rdn, rd0, tn, sc, Option.bind_some, ↓reduceIte, Bool.false_eq_true, Bool.true_eq_false]
    exact Ev.now _

end Go.Proofs.Ytcjjiajcjooccaa.Pure
