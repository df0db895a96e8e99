/- Proved: the statement FnRiseOf, for every input, without further conditions. -/
import Derived.Test.YtppfjachcleolaaPFnRiseOfx3
import Derived.Test.YtppfjachcleolaaBase
namespace Go.Proofs.Ytppfjachcleolaa.Pure
open Go.RowKit Go.Proofs.Ytppfjachcleolaa.PFnRiseOf Go.Proofs.YtppfjachcleolaaW.PrintWords Go.Proofs.YtppfjachcleolaaW.PrintLast Go.Proofs.Ytppfjachcleolaa.B Go.Proofs.Ytppfjachcleolaa.C
set_option linter.unusedSimpArgs false
set_option linter.unusedVariables false

theorem spec_l1In_eq (a b c : Int) : spec_l1In.f a b c = some (decide (b ≤ a ∧ a ≤ c)) := by
  unfold spec_l1In.f
  by_cases h : b ≤ a <;> simp [h]

theorem spec_StateOk_l0 (a : Int) (l : List Int) (hl : l.length ≤ 1048576) : ∀ (d : Nat) (i : Nat), l.length - i = d → i ≤ l.length → (∀ j, j < i → 0 ≤ G l j ∧ G l j < a) → Ev (fun k => spec_StateOk.l0 k a l (i : Int)) (decide (StateP a l)) := by
  intro d
  induction d with
  | zero =>
    intro i hd hi hj
    refine Ev.step (fun k => spec_StateOk.l0.eq_2 ..) ?_
    simp only [spec_l1In_eq, Option.bind_some]
    obtain rfl : i = l.length := by omega
    by_cases h : 3 ≤ a ∧ a ≤ 5
    · simp only [h, and_self, decide_true]
      simp (disch := omega) only [if_pos, if_neg, w64, rdn, rd0, tn, sc, Option.bind_some, ↓reduceIte, Bool.false_eq_true, Bool.true_eq_false]
      refine Ev.val ?_
      rw [decide_eq_decide]
      unfold StateP
      constructor
      · intro e; exact ⟨h.1, h.2, by omega, by omega, hj⟩
      · intro e; have := e.2.2.1; have := e.2.2.2.1; omega
    · simp only [h, decide_false]
      simp (disch := omega) only [if_pos, if_neg, w64, rdn, rd0, tn, sc, Option.bind_some, ↓reduceIte, Bool.false_eq_true, Bool.true_eq_false]
      refine Ev.val ?_
      have : ¬ StateP a l := fun p => h ⟨p.1, p.2.1⟩
      simp [this]
  | succ d ih =>
    intro i hd hi hj
    refine Ev.step (fun k => spec_StateOk.l0.eq_2 ..) ?_
    by_cases e0 : G l i < 0
    · simp (disch := omega) only [if_pos, if_neg, w64, rdn, rd0, tn, sc, Option.bind_some, ↓reduceIte, Bool.false_eq_true, Bool.true_eq_false]
      refine Ev.val ?_
      have : ¬ StateP a l := fun p => by have := p.2.2.2.2 i (by omega); omega
      simp [this]
    · by_cases e1 : G l i ≥ a
      · simp (disch := omega) only [if_pos, if_neg, w64, rdn, rd0, tn, sc, Option.bind_some, ↓reduceIte, Bool.false_eq_true, Bool.true_eq_false]
        refine Ev.val ?_
        have : ¬ StateP a l := fun p => by have := p.2.2.2.2 i (by omega); omega
        simp [this]
      · simp (disch := omega) only [if_pos, if_neg, w64, rdn, rd0, tn, sc, Option.bind_some, ↓reduceIte, Bool.false_eq_true, Bool.true_eq_false]
        refine ih (i + 1) (by omega) (by omega) ?_
        intro j hji
        by_cases e' : j = i
        · subst e'; omega
        · exact hj j (by omega)
theorem spec_StateOk_ev (a : Int) (l : List Int) (hl : l.length ≤ 1048576) : Ev (fun k => spec_StateOk.f k a l) (decide (StateP a l)) := by
  unfold spec_StateOk.f
  exact spec_StateOk_l0 a l hl _ 0 rfl (by omega) (fun j h => by omega)

theorem spec_l6Rise_eq (a b : Int) (ha : 0 ≤ a ∧ a < 3) (hb : 0 ≤ b ∧ b < 3) : spec_l6Rise.f a b = some (rise a b) := by
  unfold spec_l6Rise.f rise
  have h1 : wrap64 (b - a) = b - a := w64 (by omega) (by omega)
  have h2 : wrap64 (b - a + 3) = b - a + 3 := w64 (by omega) (by omega)
  have h3 : wrap64 (b - a + 3 + 1) = b - a + 4 := by rw [w64 (by omega) (by omega)]; omega
  rw [h1, h2, h3, tmod_nn (by omega), w64 (by omega) (by omega)]

/-- What RiseOf tells. -/
def riseOf (l : List Int) (a b : Int) : Int := if StateP 3 l ∧ 0 ≤ a ∧ a < l.length ∧ 0 ≤ b ∧ b < l.length then rise (G l a.toNat) (G l b.toNat) else 0
theorem riseOf_no {l : List Int} {a b : Int} (h : ¬ (StateP 3 l ∧ 0 ≤ a ∧ a < l.length ∧ 0 ≤ b ∧ b < l.length)) : riseOf l a b = 0 := if_neg h
theorem riseOf_yes {l : List Int} {i j : Nat} (h : StateP 3 l) (hi : i < l.length) (hj : j < l.length) : riseOf l (i : Int) (j : Int) = rise (G l i) (G l j) := if_pos ⟨h, by omega, by omega, by omega, by omega⟩
theorem spec_RiseOf_ev (l : List Int) (a b : Int) (hl : l.length ≤ 1048576) : Ev (fun k => spec_RiseOf.f k l a b) (riseOf l a b) := by
  unfold spec_RiseOf.f
  refine Ev.bind (spec_StateOk_ev 3 l hl) ?_
  by_cases hs : StateP 3 l
  · have hn := hs.2.2.1
    have hw : wrap64 ((l.length : Int) - 1) = (l.length : Int) - 1 := w64 (by omega) (by omega)
    simp only [hs, decide_true, spec_l1In_eq, Option.bind_some, hw]
    by_cases ha : 0 ≤ a ∧ a ≤ (l.length : Int) - 1
    · by_cases hb : 0 ≤ b ∧ b ≤ (l.length : Int) - 1
      · obtain ⟨i, rfl⟩ := Int.eq_ofNat_of_zero_le ha.1
        obtain ⟨j, rfl⟩ := Int.eq_ofNat_of_zero_le hb.1
        have e := spec_l6Rise_eq _ _ (hs.2.2.2.2 i (by omega)) (hs.2.2.2.2 j (by omega))
        rw [riseOf_yes hs (by omega) (by omega)]
        simp only [ha, hb, and_self, decide_true]
        simp (disch := omega) only [if_pos, if_neg, w64, rdn, rd0, tn, sc, Option.bind_some, ↓reduceIte, Bool.false_eq_true, Bool.true_eq_false]
        simp only [e, Option.bind_some]
        exact Ev.now _
      · rw [riseOf_no (by omega)]
        simp only [ha, hb, and_self, decide_true, decide_false]
        simp (disch := omega) only [if_pos, if_neg, w64, rdn, rd0, tn, sc, Option.bind_some, ↓reduceIte, Bool.false_eq_true, Bool.true_eq_false]
        exact Ev.now _
    · rw [riseOf_no (by omega)]
      simp only [ha, decide_false]
      simp (disch := omega) only [if_pos, if_neg, w64, rdn, rd0, tn, sc, Option.bind_some, ↓reduceIte, Bool.false_eq_true, Bool.true_eq_false]
      exact Ev.now _
  · rw [riseOf_no (fun h => hs h.1)]
    simp only [hs, decide_false]
    simp (disch := omega) only [if_pos, if_neg, w64, rdn, rd0, tn, sc, Option.bind_some, ↓reduceIte, Bool.false_eq_true, Bool.true_eq_false]
    exact Ev.now _

theorem impl_StateOk_l0 (a : Int) (l : List Int) (hl : l.length ≤ 1048576) : ∀ (d : Nat) (i : Nat), l.length - i = d → i ≤ l.length → (∀ j, j < i → 0 ≤ G l j ∧ G l j < a) → Ev (fun k => impl_StateOk.l0 k a l l (l.length : Int) (i : Int)) (decide (StateP a l)) := by
  intro d
  induction d with
  | zero =>
    intro i hd hi hj
    refine Ev.step (fun k => impl_StateOk.l0.eq_2 ..) ?_
    obtain rfl : i = l.length := by omega
    by_cases h3 : 3 ≤ a
    · by_cases h5 : a ≤ 5
      · by_cases h1 : 1 ≤ l.length
        · simp (disch := omega) only [if_pos, if_neg, w64, rdn, rd0, tn, sc, Option.bind_some, ↓reduceIte, Bool.false_eq_true, Bool.true_eq_false]
          refine Ev.val ?_
          rw [decide_eq_decide]
          unfold StateP
          constructor
          · intro e; exact ⟨h3, h5, h1, by omega, hj⟩
          · intro e; have := e.2.2.2.1; omega
        · simp (disch := omega) only [if_pos, if_neg, w64, rdn, rd0, tn, sc, Option.bind_some, ↓reduceIte, Bool.false_eq_true, Bool.true_eq_false]
          refine Ev.val ?_
          have : ¬ StateP a l := fun p => h1 p.2.2.1
          simp [this]
      · simp (disch := omega) only [if_pos, if_neg, w64, rdn, rd0, tn, sc, Option.bind_some, ↓reduceIte, Bool.false_eq_true, Bool.true_eq_false]
        refine Ev.val ?_
        have : ¬ StateP a l := fun p => h5 p.2.1
        simp [this]
    · simp (disch := omega) only [if_pos, if_neg, w64, rdn, rd0, tn, sc, Option.bind_some, ↓reduceIte, Bool.false_eq_true, Bool.true_eq_false]
      refine Ev.val ?_
      have : ¬ StateP a l := fun p => h3 p.1
      simp [this]
  | succ d ih =>
    intro i hd hi hj
    refine Ev.step (fun k => impl_StateOk.l0.eq_2 ..) ?_
    by_cases e0 : G l i < 0
    · simp (disch := omega) only [if_pos, if_neg, w64, rdn, rd0, tn, sc, Option.bind_some, ↓reduceIte, Bool.false_eq_true, Bool.true_eq_false]
      refine Ev.val ?_
      have : ¬ StateP a l := fun p => by have := p.2.2.2.2 i (by omega); omega
      simp [this]
    · by_cases e1 : G l i ≥ a
      · simp (disch := omega) only [if_pos, if_neg, w64, rdn, rd0, tn, sc, Option.bind_some, ↓reduceIte, Bool.false_eq_true, Bool.true_eq_false]
        refine Ev.val ?_
        have : ¬ StateP a l := fun p => by have := p.2.2.2.2 i (by omega); omega
        simp [this]
      · simp (disch := omega) only [if_pos, if_neg, w64, rdn, rd0, tn, sc, Option.bind_some, ↓reduceIte, Bool.false_eq_true, Bool.true_eq_false]
        refine ih (i + 1) (by omega) (by omega) ?_
        intro j hji
        by_cases e' : j = i
        · subst e'; omega
        · exact hj j (by omega)
theorem impl_StateOk_ev (a : Int) (l : List Int) (hl : l.length ≤ 1048576) : Ev (fun k => impl_StateOk.f k a l) (decide (StateP a l)) := by
  unfold impl_StateOk.f
  exact impl_StateOk_l0 a l hl _ 0 rfl (by omega) (fun j h => by omega)

theorem impl_rise_eq (l : List Int) (hl : ∀ i, i < l.length → 0 ≤ G l i ∧ G l i < 3) {i j : Nat} (hi : i < l.length) (hj : j < l.length) : impl_rise.f l (i : Int) (j : Int) = some (rise (G l i) (G l j)) := by
  have ha := hl i hi
  have hb := hl j hj
  unfold impl_rise.f
  have h1 : wrap64 (G l j - G l i) = G l j - G l i := w64 (by omega) (by omega)
  have h2 : wrap64 (G l j - G l i + 3) = G l j - G l i + 3 := w64 (by omega) (by omega)
  have h3 : Int.tmod (G l j - G l i + 3) 3 = (G l j - G l i + 3) % 3 := tmod_nn (by omega)
  simp only [rdn, h1, h2, h3]
  unfold rise
  by_cases e1 : (G l j - G l i + 3) % 3 = 1
  · simp (disch := omega) only [if_pos, if_neg, w64, rdn, rd0, tn, sc, Option.bind_some, ↓reduceIte, Bool.false_eq_true, Bool.true_eq_false]
    congr 1; omega
  · by_cases e2 : (G l j - G l i + 3) % 3 = 2
    · simp (disch := omega) only [if_pos, if_neg, w64, rdn, rd0, tn, sc, Option.bind_some, ↓reduceIte, Bool.false_eq_true, Bool.true_eq_false]
      congr 1; omega
    · simp (disch := omega) only [if_pos, if_neg, w64, rdn, rd0, tn, sc, Option.bind_some, ↓reduceIte, Bool.false_eq_true, Bool.true_eq_false]
      congr 1; omega

theorem impl_RiseOf_ev (l : List Int) (a b : Int) (hl : l.length ≤ 1048576) : Ev (fun k => impl_RiseOf.f k l a b) (riseOf l a b) := by
  unfold impl_RiseOf.f
  refine Ev.bind (impl_StateOk_ev 3 l hl) ?_
  by_cases hs : StateP 3 l
  · simp only [hs, decide_true]
    by_cases ha0 : a < 0
    · rw [riseOf_no (by omega)]
      simp (disch := omega) only [if_pos, if_neg, w64, rdn, rd0, tn, sc, Option.bind_some, ↓reduceIte, Bool.false_eq_true, Bool.true_eq_false]
      exact Ev.now _
    · by_cases ha1 : a ≥ (l.length : Int)
      · rw [riseOf_no (by omega)]
        simp (disch := omega) only [if_pos, if_neg, w64, rdn, rd0, tn, sc, Option.bind_some, ↓reduceIte, Bool.false_eq_true, Bool.true_eq_false]
        exact Ev.now _
      · by_cases hb0 : b < 0
        · rw [riseOf_no (by omega)]
          simp (disch := omega) only [if_pos, if_neg, w64, rdn, rd0, tn, sc, Option.bind_some, ↓reduceIte, Bool.false_eq_true, Bool.true_eq_false]
          exact Ev.now _
        · by_cases hb1 : b ≥ (l.length : Int)
          · rw [riseOf_no (by omega)]
            simp (disch := omega) only [if_pos, if_neg, w64, rdn, rd0, tn, sc, Option.bind_some, ↓reduceIte, Bool.false_eq_true, Bool.true_eq_false]
            exact Ev.now _
          · obtain ⟨i, rfl⟩ := Int.eq_ofNat_of_zero_le (show 0 ≤ a by omega)
            obtain ⟨j, rfl⟩ := Int.eq_ofNat_of_zero_le (show 0 ≤ b by omega)
            rw [riseOf_yes hs (by omega) (by omega)]
            simp (disch := omega) only [if_pos, if_neg, w64, rdn, rd0, tn, sc, Option.bind_some, ↓reduceIte, Bool.false_eq_true, Bool.true_eq_false]
            rw [impl_rise_eq l hs.2.2.2.2 (by omega) (by omega)]
            simp (disch := omega) only [if_pos, if_neg, w64, rdn, rd0, tn, sc, Option.bind_some, ↓reduceIte, Bool.false_eq_true, Bool.true_eq_false]
            exact Ev.now _
  · rw [riseOf_no (fun h => hs h.1)]
    simp only [hs, decide_false]
    simp (disch := omega) only [if_pos, if_neg, w64, rdn, rd0, tn, sc, Option.bind_some, ↓reduceIte, Bool.false_eq_true, Bool.true_eq_false]
    exact Ev.now _

/-- A reader's bytes. -/
def RdOk (b : List Int) : Prop := b.length ≤ 2000 ∧ ∀ i, 0 ≤ G b i ∧ G b i ≤ 255
theorem spec_l20Open_eq (l : List Int) (h : ∀ x ∈ l, (Lit.int .u8 x).wf = true) : ∃ b, spec_l20Open.f l = some (b, 0) ∧ RdOk b := by
  have hl : ∀ i, 0 ≤ G l i ∧ G l i ≤ 255 := by
    intro i
    by_cases e : i < l.length
    · exact wf_u8.1 (h _ (G_mem e))
    · rw [G_of_ge (by omega)]; omega
  unfold spec_l20Open.f
  by_cases e : l.length > 2000
  · simp (disch := omega) only [if_pos, if_neg, w64, rdn, rd0, tn, sc, Option.bind_some, ↓reduceIte, Bool.false_eq_true, Bool.true_eq_false]
    refine ⟨_, rfl, by simp; omega, fun i => ?_⟩
    by_cases ei : i < 2000
    · rw [G_take ei]; exact hl i
    · rw [G_of_ge (by simp; omega)]; omega
  · simp (disch := omega) only [if_pos, if_neg, w64, rdn, rd0, tn, sc, Option.bind_some, ↓reduceIte, Bool.false_eq_true, Bool.true_eq_false]
    exact ⟨_, rfl, by omega, hl⟩

theorem xor_nn {a b : Int} (ha : 0 ≤ a) (ha' : a < 4611686018427387904) (hb : 0 ≤ b) (hb' : b < 4611686018427387904) : 0 ≤ Go.bits .xor .i64 a b := by
  obtain ⟨m, rfl⟩ := Int.eq_ofNat_of_zero_le ha
  obtain ⟨n, rfl⟩ := Int.eq_ofNat_of_zero_le hb
  show 0 ≤ IntKind.i64.wrap (((BitVec.ofInt 64 (m : Int) ^^^ BitVec.ofInt 64 (n : Int)).toNat : Nat) : Int)
  have hx : (BitVec.ofInt 64 (m : Int) ^^^ BitVec.ofInt 64 (n : Int)).toNat < 2 ^ 62 := by
    rw [BitVec.toNat_xor]
    apply Nat.xor_lt_two_pow
    · rw [BitVec.ofInt_natCast, BitVec.toNat_ofNat, Nat.mod_eq_of_lt (by omega)]; omega
    · rw [BitVec.ofInt_natCast, BitVec.toNat_ofNat, Nat.mod_eq_of_lt (by omega)]; omega
  rw [i64_w, w64 (by omega) (by omega)]; omega
theorem pick_ev (b : List Int) (hb : RdOk b) (p n : Int) (hp : 0 ≤ p) (hp2 : p ≤ 1000000) (hn : n ≤ 1000000) :
    ∃ v, Ev (fun k => spec_l20Rd_pick.f k b p n) (v, p + 1) ∧ 0 ≤ v ∧ (1 ≤ n → v < n) ∧ (n < 1 → v = 0) := by
  obtain ⟨q, rfl⟩ := Int.eq_ofNat_of_zero_le hp
  unfold spec_l20Rd_pick.f
  have hw : wrap64 ((q : Int) + 1) = (q : Int) + 1 := w64 (by omega) (by omega)
  have hw2 : wrap64 ((q : Int) + 1 - 1) = (q : Int) := by rw [w64 (by omega) (by omega)]; omega
  by_cases h1 : n < 1
  · refine ⟨0, ?_, by omega, fun h => by omega, fun _ => rfl⟩
    simp only [hw]
    rw [show (fun k => if n < 1 then spec_l20Rd_pick.j0 k n true b ((q : Int) + 1) else spec_l20Rd_pick.j0 k n ((b.length : Int) == 0) b ((q : Int) + 1)) = (fun k => spec_l20Rd_pick.j0 k n true b ((q : Int) + 1)) from funext fun k => if_pos h1]
    refine Ev.step (fun k => spec_l20Rd_pick.j0.eq_2 ..) ?_
    simp only [↓reduceIte]
    exact Ev.now _
  · simp only [hw]
    rw [show (fun k => if n < 1 then spec_l20Rd_pick.j0 k n true b ((q : Int) + 1) else spec_l20Rd_pick.j0 k n ((b.length : Int) == 0) b ((q : Int) + 1)) = (fun k => spec_l20Rd_pick.j0 k n ((b.length : Int) == 0) b ((q : Int) + 1)) from funext fun k => if_neg h1]
    by_cases h0 : b.length = 0
    · refine ⟨0, ?_, by omega, fun h => by omega, fun _ => rfl⟩
      have : ((b.length : Int) == 0) = true := beq_iff_eq.2 (by omega)
      rw [this]
      refine Ev.step (fun k => spec_l20Rd_pick.j0.eq_2 ..) ?_
      simp only [↓reduceIte]
      exact Ev.now _
    · have hz : ((b.length : Int) == 0) = false := beq_eq_false_iff_ne.2 (by omega)
      rw [hz]
      by_cases hq : q < b.length
      · have hg := hb.2 q
        have hwg : wrap64 (G b q) = G b q := w64 (by omega) (by omega)
        refine ⟨G b q % n, ?_, Int.emod_nonneg _ (by omega), fun h => Int.emod_lt_of_pos _ (by omega), fun h => absurd h h1⟩
        refine Ev.step (fun k => spec_l20Rd_pick.j0.eq_2 ..) ?_
        simp only [hw2, rdn, hwg]
        rw [tmod_nn hg.1]
        simp (disch := omega) only [if_pos, if_neg, w64, rdn, rd0, tn, sc, Option.bind_some, ↓reduceIte, Bool.false_eq_true, Bool.true_eq_false]
        exact Ev.now _
      · have hL := hb.1
        have hm1 : q % b.length < b.length := Nat.mod_lt _ (by omega)
        have hm2 : (q * 7 + 3) % b.length < b.length := Nat.mod_lt _ (by omega)
        have e1 : Int.tmod (q : Int) (b.length : Int) = ((q % b.length : Nat) : Int) := by rw [tmod_nn (by omega)]; rfl
        have e2 : wrap64 (wrap64 ((q : Int) * 7) + 3) = ((q * 7 + 3 : Nat) : Int) := by rw [w64 (n := (q : Int) * 7) (by omega) (by omega), w64 (by omega) (by omega)]; omega
        have e3 : Int.tmod ((q * 7 + 3 : Nat) : Int) (b.length : Int) = (((q * 7 + 3) % b.length : Nat) : Int) := by rw [tmod_nn (by omega)]; rfl
        obtain ⟨Q, hQ⟩ : ∃ Q, Q = q / b.length := ⟨_, rfl⟩
        have hd : Q ≤ q := by rw [hQ]; exact Nat.div_le_self _ _
        have e4 : Int.tdiv (q : Int) (b.length : Int) = (Q : Int) := by rw [tdiv_nn (by omega), hQ]; rfl
        clear hQ
        have g1 := hb.2 (q % b.length)
        have g2 := hb.2 ((q * 7 + 3) % b.length)
        have f1 : wrap64 (wrap64 (G b (q % b.length)) * 131) = G b (q % b.length) * 131 := by rw [w64 (n := G b (q % b.length)) (by omega) (by omega), w64 (by omega) (by omega)]
        have f2 : wrap64 (wrap64 (G b ((q * 7 + 3) % b.length)) * 1117) = G b ((q * 7 + 3) % b.length) * 1117 := by rw [w64 (n := G b ((q * 7 + 3) % b.length)) (by omega) (by omega), w64 (by omega) (by omega)]
        have f3 : wrap64 ((q : Int) * 29) = (q : Int) * 29 := w64 (by omega) (by omega)
        have f4 : wrap64 (wrap64 ((Q : Int)) * 53) = (Q : Int) * 53 := by rw [w64 (n := (Q : Int)) (by omega) (by omega), w64 (by omega) (by omega)]
        have f5 : wrap64 (G b (q % b.length) * 131 + G b ((q * 7 + 3) % b.length) * 1117) = G b (q % b.length) * 131 + G b ((q * 7 + 3) % b.length) * 1117 := w64 (by omega) (by omega)
        have f6 : wrap64 (G b (q % b.length) * 131 + G b ((q * 7 + 3) % b.length) * 1117 + (q : Int) * 29) = G b (q % b.length) * 131 + G b ((q * 7 + 3) % b.length) * 1117 + (q : Int) * 29 := w64 (by omega) (by omega)
        have f7 : wrap64 (G b (q % b.length) * 131 + G b ((q * 7 + 3) % b.length) * 1117 + (q : Int) * 29 + (Q : Int) * 53) = G b (q % b.length) * 131 + G b ((q * 7 + 3) % b.length) * 1117 + (q : Int) * 29 + (Q : Int) * 53 := w64 (by omega) (by omega)
        obtain ⟨X, hX⟩ : ∃ X, X = G b (q % b.length) * 131 + G b ((q * 7 + 3) % b.length) * 1117 + (q : Int) * 29 + (Q : Int) * 53 := ⟨_, rfl⟩
        have hX0 : 0 ≤ X := by omega
        have hX1 : X < 4611686018427387904 := by omega
        have f8 : wrap64 (Int.tdiv X 64) = X / 64 := by rw [tdiv_nn hX0, w64 (by omega) (by omega)]
        have f9 : wrap64 X = X := w64 (by omega) (by omega)
        have hx := xor_nn hX0 hX1 (b := X / 64) (by omega) (by omega)
        refine ⟨Go.bits .xor .i64 X (X / 64) % n, ?_, Int.emod_nonneg _ (by omega), fun h => Int.emod_lt_of_pos _ (by omega), fun h => absurd h h1⟩
        refine Ev.step (fun k => spec_l20Rd_pick.j0.eq_2 ..) ?_
        simp only [hw2, e1, e2, e3, e4, rdn, f1, f2, f3, f4, f5, f6, f7, ← hX, f9, f8]
        rw [tmod_nn hx]
        simp (disch := omega) only [if_pos, if_neg, w64, rdn, rd0, tn, sc, Option.bind_some, ↓reduceIte, Bool.false_eq_true, Bool.true_eq_false]
        exact Ev.now _

theorem odd_ev (b : List Int) (hb : RdOk b) (p n : Int) (hp : 0 ≤ p) (hp2 : p ≤ 1000000) (hn : n ≤ 1000000) :
    ∃ c p', Ev (fun k => spec_l20Rd_odd.f k b p n) (c, p') ∧ p ≤ p' ∧ p' ≤ p + 1 ∧ (n ≤ 0 → c = false) := by
  unfold spec_l20Rd_odd.f
  by_cases h : n > 0
  · obtain ⟨v, hv, _⟩ := pick_ev b hb p n hp hp2 hn
    refine ⟨v == wrap64 (n - 1), p + 1, ?_, by omega, by omega, fun h' => by omega⟩
    simp (disch := omega) only [if_pos, if_neg, w64, rdn, rd0, tn, sc, Option.bind_some, ↓reduceIte, Bool.false_eq_true, Bool.true_eq_false]
    refine Ev.bind hv ?_
    exact Ev.now _
  · refine ⟨false, p, ?_, by omega, by omega, fun _ => rfl⟩
    simp (disch := omega) only [if_pos, if_neg, w64, rdn, rd0, tn, sc, Option.bind_some, ↓reduceIte, Bool.false_eq_true, Bool.true_eq_false]
    exact Ev.now _

theorem l20State_l0 (b : List Int) (hb : RdOk b) (nodes : Nat) (kinds n thin : Int) (h1 : 1 ≤ nodes) (h9 : nodes ≤ 100) (hk : 1 ≤ kinds) (hk' : kinds ≤ 1000) (hn : n ≤ 1000000) :
    ∀ (d : Nat) (i : Nat) (s : List Int) (p : Int), nodes - i = d → i ≤ nodes → s.length = i → (∀ j, 0 ≤ G s j ∧ G s j ≤ kinds) → 0 ≤ p → p ≤ 100000 - 2 * (nodes - i) →
      ∃ r p', Ev (fun k => spec_l20State.l0 k (nodes : Int) kinds n s thin (i : Int) b p) (r, p') ∧ p ≤ p' ∧ p' ≤ p + 2 * (nodes - i) + 2 ∧ (r.length = 0 ∨ r.length = nodes) ∧ (∀ j, 0 ≤ G r j ∧ G r j ≤ kinds) ∧ (n ≤ 0 → r.length = nodes) := by
  intro d
  induction d with
  | zero =>
    intro i s p hd hi hs hj hp hp2
    have hin : i = nodes := by omega
    obtain ⟨c, p1, hc, hc1, hc2, hc3⟩ := odd_ev b hb p n hp (by omega) hn
    cases c with
    | false =>
      refine ⟨s, p1, ?_, by omega, by omega, Or.inr (by omega), hj, fun _ => by omega⟩
      refine Ev.step (fun k => spec_l20State.l0.eq_2 ..) ?_
      simp (disch := omega) only [if_pos, if_neg, w64, rdn, rd0, tn, sc, Option.bind_some, ↓reduceIte, Bool.false_eq_true, Bool.true_eq_false]
      refine Ev.bind hc ?_
      simp (disch := omega) only [if_pos, if_neg, w64, rdn, rd0, tn, sc, Option.bind_some, ↓reduceIte, Bool.false_eq_true, Bool.true_eq_false]
      exact Ev.now _
    | true =>
      obtain ⟨v, hv, _⟩ := pick_ev b hb p1 2 (by omega) (by omega) (by omega)
      by_cases hv0 : v = 0
      · refine ⟨[], p1 + 1, ?_, by omega, by omega, Or.inl rfl, fun j => by simp [G]; omega, fun h => by have := hc3 h; simp at this⟩
        refine Ev.step (fun k => spec_l20State.l0.eq_2 ..) ?_
        simp (disch := omega) only [if_pos, if_neg, w64, rdn, rd0, tn, sc, Option.bind_some, ↓reduceIte, Bool.false_eq_true, Bool.true_eq_false]
        refine Ev.bind hc ?_
        simp (disch := omega) only [if_pos, if_neg, w64, rdn, rd0, tn, sc, Option.bind_some, ↓reduceIte, Bool.false_eq_true, Bool.true_eq_false]
        refine Ev.bind hv ?_
        simp (disch := omega) only [if_pos, if_neg, w64, rdn, rd0, tn, sc, Option.bind_some, ↓reduceIte, Bool.false_eq_true, Bool.true_eq_false]
        exact Ev.now _
      · refine ⟨s.set (nodes - 1) kinds, p1 + 1, ?_, by omega, by omega, Or.inr (by simp; omega), fun j => ?_, fun h => by have := hc3 h; simp at this⟩
        · have hw : wrap64 ((s.length : Int) - 1) = ((nodes - 1 : Nat) : Int) := by rw [w64 (by omega) (by omega)]; omega
          refine Ev.step (fun k => spec_l20State.l0.eq_2 ..) ?_
          simp only [hw]
          simp (disch := omega) only [if_pos, if_neg, w64, rdn, rd0, tn, sc, Option.bind_some, ↓reduceIte, Bool.false_eq_true, Bool.true_eq_false]
          refine Ev.bind hc ?_
          simp (disch := omega) only [if_pos, if_neg, w64, rdn, rd0, tn, sc, Option.bind_some, ↓reduceIte, Bool.false_eq_true, Bool.true_eq_false]
          refine Ev.bind hv ?_
          simp (disch := omega) only [if_pos, if_neg, w64, rdn, rd0, tn, sc, Option.bind_some, ↓reduceIte, Bool.false_eq_true, Bool.true_eq_false]
          exact Ev.now _
        · by_cases e : j = nodes - 1
          · subst e; rw [G_set_self _ (by omega)]; omega
          · rw [G_set_ne _ e]; exact hj j
  | succ d ih =>
    intro i s p hd hi hs hj hp hp2
    have next : ∀ v p1, 0 ≤ v → v ≤ kinds → p ≤ p1 → p1 ≤ p + 2 → ∃ r p', Ev (fun k => spec_l20State.l0 k (nodes : Int) kinds n (s ++ [v]) thin ((i + 1 : Nat) : Int) b p1) (r, p') ∧ p1 ≤ p' ∧ p' ≤ p1 + 2 * (nodes - (i + 1)) + 2 ∧ (r.length = 0 ∨ r.length = nodes) ∧ (∀ j, 0 ≤ G r j ∧ G r j ≤ kinds) ∧ (n ≤ 0 → r.length = nodes) := by
      intro v p1 hv hv' hp1 hp1'
      refine (ih (i + 1) (s ++ [v]) p1 (by omega) (by omega) (by simp [hs]) ?_ (by omega) (by omega))
      intro j
      by_cases e : j < i
      · rw [G_append_left (by omega)]; exact hj j
      · rw [G_append_right (by omega)]
        by_cases e2 : j - s.length = 0
        · rw [e2]; simp [G]; omega
        · rw [G_of_ge (by simp; omega)]; omega
    by_cases ht : thin > 0
    · obtain ⟨v, hv, hv0, hv1, _⟩ := pick_ev b hb p 3 hp (by omega) (by omega)
      by_cases hvt : v < thin
      · obtain ⟨r, p', hr, h2, h3, h4⟩ := next 0 (p + 1) (by omega) (by omega) (by omega) (by omega)
        refine ⟨r, p', ?_, by omega, by omega, h4⟩
        refine Ev.step (fun k => spec_l20State.l0.eq_2 ..) ?_
        simp (disch := omega) only [if_pos, if_neg, w64, rdn, rd0, tn, sc, Option.bind_some, ↓reduceIte, Bool.false_eq_true, Bool.true_eq_false]
        refine Ev.bind hv ?_
        simp (disch := omega) only [if_pos, if_neg, w64, rdn, rd0, tn, sc, Option.bind_some, ↓reduceIte, Bool.false_eq_true, Bool.true_eq_false]
        exact hr
      · obtain ⟨u, hu, hu0, hu1, _⟩ := pick_ev b hb (p + 1) kinds (by omega) (by omega) (by omega)
        obtain ⟨r, p', hr, h2, h3, h4⟩ := next u (p + 1 + 1) hu0 (by omega) (by omega) (by omega)
        refine ⟨r, p', ?_, by omega, by omega, h4⟩
        refine Ev.step (fun k => spec_l20State.l0.eq_2 ..) ?_
        simp (disch := omega) only [if_pos, if_neg, w64, rdn, rd0, tn, sc, Option.bind_some, ↓reduceIte, Bool.false_eq_true, Bool.true_eq_false]
        refine Ev.bind hv ?_
        simp (disch := omega) only [if_pos, if_neg, w64, rdn, rd0, tn, sc, Option.bind_some, ↓reduceIte, Bool.false_eq_true, Bool.true_eq_false]
        refine Ev.bind hu ?_
        simp (disch := omega) only [if_pos, if_neg, w64, rdn, rd0, tn, sc, Option.bind_some, ↓reduceIte, Bool.false_eq_true, Bool.true_eq_false]
        exact hr
    · obtain ⟨u, hu, hu0, hu1, _⟩ := pick_ev b hb p kinds (by omega) (by omega) (by omega)
      obtain ⟨r, p', hr, h2, h3, h4⟩ := next u (p + 1) hu0 (by omega) (by omega) (by omega)
      refine ⟨r, p', ?_, by omega, by omega, h4⟩
      refine Ev.step (fun k => spec_l20State.l0.eq_2 ..) ?_
      simp (disch := omega) only [if_pos, if_neg, w64, rdn, rd0, tn, sc, Option.bind_some, ↓reduceIte, Bool.false_eq_true, Bool.true_eq_false]
      refine Ev.bind hu ?_
      simp (disch := omega) only [if_pos, if_neg, w64, rdn, rd0, tn, sc, Option.bind_some, ↓reduceIte, Bool.false_eq_true, Bool.true_eq_false]
      exact hr
theorem l20State_ev (b : List Int) (hb : RdOk b) (nodes : Nat) (kinds n p : Int) (h1 : 1 ≤ nodes) (h9 : nodes ≤ 100) (hk : 1 ≤ kinds) (hk' : kinds ≤ 1000) (hn : n ≤ 1000000) (hp : 0 ≤ p) (hp2 : p ≤ 10000) :
    ∃ r p', Ev (fun k => spec_l20State.f k b p (nodes : Int) kinds n) (r, p') ∧ p ≤ p' ∧ p' ≤ p + 300 ∧ (r.length = 0 ∨ r.length = nodes) ∧ (∀ j, 0 ≤ G r j ∧ G r j ≤ kinds) ∧ (n ≤ 0 → r.length = nodes) := by
  obtain ⟨v, hv, hv0, hv1, _⟩ := pick_ev b hb p 3 hp (by omega) (by omega)
  obtain ⟨r, p', hr, h2, h3, h4⟩ := l20State_l0 b hb nodes kinds n v h1 h9 hk hk' hn _ 0 [] (p + 1) rfl (by omega) rfl (fun j => by simp [G]; omega) (by omega) (by omega)
  refine ⟨r, p', ?_, by omega, by omega, h4⟩
  unfold spec_l20State.f
  refine Ev.bind hv ?_
  exact hr

theorem DrawRiseOf_ev (l : List Int) (h : ∀ x ∈ l, (Lit.int .u8 x).wf = true) : ∃ s a b, Ev (fun k => spec_DrawRiseOf.f k l) (s, a, b) ∧ s.length ≤ 6 := by
  obtain ⟨b, hb, hR⟩ := spec_l20Open_eq l h
  obtain ⟨v, hv, hv0, hv1, _⟩ := pick_ev b hR 0 6 (by omega) (by omega) (by omega)
  obtain ⟨m, rfl⟩ := Int.eq_ofNat_of_zero_le hv0
  obtain ⟨s, p, hs, hp1, hp2, hs1, hs2, _⟩ := l20State_ev b hR (1 + m) 3 14 (0 + 1) (by omega) (by omega) (by omega) (by omega) (by omega) (by omega) (by omega)
  have hmx : mx (s.length : Int) 1 ≤ 1000 := by unfold mx; split <;> omega
  obtain ⟨v1, hv1, _⟩ := pick_ev b hR p (mx (s.length : Int) 1) (by omega) (by omega) (by omega)
  obtain ⟨v2, hv2, _⟩ := pick_ev b hR (p + 1) 40 (by omega) (by omega) (by omega)
  obtain ⟨v3, hv3, _⟩ := pick_ev b hR (p + 1 + 1) (mx (s.length : Int) 1) (by omega) (by omega) (by omega)
  obtain ⟨v4, hv4, _⟩ := pick_ev b hR (p + 1 + 1 + 1) 40 (by omega) (by omega) (by omega)
  refine ⟨s, wrap64 (v1 + wrap64 (wrap64 (Int.tdiv v2 39) * 6)), wrap64 (v3 - wrap64 (wrap64 (Int.tdiv v4 39) * 7)), ?_, by omega⟩
  · unfold spec_DrawRiseOf.f
    rw [hb]
    simp only [Option.bind_some]
    refine Ev.bind hv ?_
    have hw : wrap64 (1 + (m : Int)) = ((1 + m : Nat) : Int) := by rw [w64 (by omega) (by omega)]; omega
    simp only [hw]
    refine Ev.bind hs ?_
    refine Ev.bind hv1 ?_
    refine Ev.bind hv2 ?_
    refine Ev.bind hv3 ?_
    refine Ev.bind hv4 ?_
    exact Ev.now _

theorem impl_NetOk_l1 (l : List Int) (h6 : l.length ≤ 6) (i : Nat) (hi : i < l.length) (r : Bool)
    (hbad : ∀ k, k < l.length → ¬ (adj l i k ↔ adj l k i) → r = false)
    (hgood : (∀ k, k < l.length → (adj l i k ↔ adj l k i)) → Ev (fun k => impl_NetOk.l0 k l l (l.length : Int) ((i + 1 : Nat) : Int)) r) :
    ∀ (d : Nat) (j : Nat), l.length - j = d → j ≤ l.length → (∀ k, k < j → (adj l i k ↔ adj l k i)) →
      Ev (fun k => impl_NetOk.l1 k l (i : Int) (G l i) l (l.length : Int) (i : Int) (l.length : Int) (j : Int)) r := by
  intro d
  induction d with
  | zero =>
    intro j hd hj hk
    refine Ev.step (fun k => impl_NetOk.l1.eq_2 ..) ?_
    simp (disch := omega) only [if_pos, if_neg, w64, rdn, rd0, tn, sc, Option.bind_some, ↓reduceIte, Bool.false_eq_true, Bool.true_eq_false]
    exact hgood (fun k hkl => hk k (by omega))
  | succ d ih =>
    intro j hd hj hk
    refine Ev.step (fun k => impl_NetOk.l1.eq_2 ..) ?_
    have b1 := bit_and (G l i) (j := j) (by omega)
    have b2 := bit_and (G l j) (j := i) (by omega)
    have m1 := Int.emod_two_eq (G l i / 2 ^ j)
    have m2 := Int.emod_two_eq (G l j / 2 ^ i)
    by_cases e : adj l i j ↔ adj l j i
    · have e' : G l i / 2 ^ j % 2 = G l j / 2 ^ i % 2 := by
        unfold adj at e
        by_cases c : G l i / 2 ^ j % 2 = 1
        · rw [c, e.1 c]
        · have c2 := fun h => c (e.2 h)
          omega
      simp only [rdn, b1, b2]
      simp (disch := omega) only [if_pos, if_neg, w64, rdn, rd0, tn, sc, Option.bind_some, ↓reduceIte, Bool.false_eq_true, Bool.true_eq_false]
      refine ih _ (by omega) (by omega) ?_
      intro k hkj
      by_cases e' : k = j
      · subst e'; exact e
      · exact hk k (by omega)
    · have e' : ¬ G l i / 2 ^ j % 2 = G l j / 2 ^ i % 2 := by
        intro h
        apply e
        unfold adj
        rw [h]
      simp only [rdn, b1, b2]
      simp (disch := omega) only [if_pos, if_neg, w64, rdn, rd0, tn, sc, Option.bind_some, ↓reduceIte, Bool.false_eq_true, Bool.true_eq_false]
      exact Ev.val (hbad j (by omega) e).symm
theorem impl_NetOk_l0 (l : List Int) (h1 : 1 ≤ l.length) (h6 : l.length ≤ 6) : ∀ (d : Nat) (i : Nat), l.length - i = d → i ≤ l.length →
    (∀ j, j < i → (0 ≤ G l j ∧ G l j < 2 ^ l.length ∧ ¬ adj l j j ∧ ∀ k, k < l.length → (adj l j k ↔ adj l k j))) → Ev (fun k => impl_NetOk.l0 k l l (l.length : Int) (i : Int)) (decide (NetP l)) := by
  intro d
  induction d with
  | zero =>
    intro i hd hi hj
    refine Ev.step (fun k => impl_NetOk.l0.eq_2 ..) ?_
    simp (disch := omega) only [if_pos, if_neg, w64, rdn, rd0, tn, sc, Option.bind_some, ↓reduceIte, Bool.false_eq_true, Bool.true_eq_false]
    have : NetP l := ⟨h1, h6, fun j h => hj j (by omega)⟩
    exact Ev.val (by simp [this])
  | succ d ih =>
    intro i hd hi hj
    refine Ev.step (fun k => impl_NetOk.l0.eq_2 ..) ?_
    have hs := shl1 (n := l.length) (by omega)
    have hb := bit_and (G l i) (j := i) (by omega)
    simp only [rdn, hs, hb]
    have bad : ¬ (0 ≤ G l i ∧ G l i < 2 ^ l.length ∧ ¬ adj l i i) → decide (NetP l) = false := by
      intro h
      have : ¬ NetP l := fun p => h ⟨(p.2.2 i (by omega)).1, (p.2.2 i (by omega)).2.1, (p.2.2 i (by omega)).2.2.1⟩
      simp [this]
    by_cases e0 : G l i < 0
    · simp (disch := omega) only [if_pos, if_neg, w64, rdn, rd0, tn, sc, Option.bind_some, ↓reduceIte, Bool.false_eq_true, Bool.true_eq_false]
      refine Ev.step (fun k => impl_NetOk.j2.eq_2 ..) ?_
      simp (disch := omega) only [if_pos, if_neg, w64, rdn, rd0, tn, sc, Option.bind_some, ↓reduceIte, Bool.false_eq_true, Bool.true_eq_false]
      exact Ev.val (bad (by omega)).symm
    · by_cases e1 : G l i ≥ 2 ^ l.length
      · simp (disch := omega) only [if_pos, if_neg, w64, rdn, rd0, tn, sc, Option.bind_some, ↓reduceIte, Bool.false_eq_true, Bool.true_eq_false]
        refine Ev.step (fun k => impl_NetOk.j2.eq_2 ..) ?_
        simp (disch := omega) only [if_pos, if_neg, w64, rdn, rd0, tn, sc, Option.bind_some, ↓reduceIte, Bool.false_eq_true, Bool.true_eq_false]
        exact Ev.val (bad (by omega)).symm
      · simp (disch := omega) only [if_pos, if_neg, w64, rdn, rd0, tn, sc, Option.bind_some, ↓reduceIte, Bool.false_eq_true, Bool.true_eq_false]
        refine Ev.step (fun k => impl_NetOk.j2.eq_2 ..) ?_
        by_cases e2 : G l i / 2 ^ i % 2 = 1
        · have e3 : (G l i / 2 ^ i % 2 == 1) = true := by simp [e2]
          simp only [e3]
          simp (disch := omega) only [if_pos, if_neg, w64, rdn, rd0, tn, sc, Option.bind_some, ↓reduceIte, Bool.false_eq_true, Bool.true_eq_false]
          exact Ev.val (bad (fun h => h.2.2 e2)).symm
        · have e3 : (G l i / 2 ^ i % 2 == 1) = false := by simp [e2]
          simp only [e3]
          simp (disch := omega) only [if_pos, if_neg, w64, rdn, rd0, tn, sc, Option.bind_some, ↓reduceIte, Bool.false_eq_true, Bool.true_eq_false]
          refine impl_NetOk_l1 l h6 i (by omega) _ ?_ ?_ _ 0 rfl (by omega) (fun k h => by omega)
          · intro k hk hn
            have : ¬ NetP l := fun p => hn ((p.2.2 i (by omega)).2.2.2 k hk)
            simp [this]
          · intro hall
            refine ih _ (by omega) (by omega) ?_
            intro j hji
            by_cases e' : j = i
            · subst e'; exact ⟨by omega, by omega, e2, hall⟩
            · exact hj j (by omega)
theorem impl_NetOk_ev (l : List Int) (hl : l.length ≤ 1048576) : Ev (fun k => impl_NetOk.f k l) (decide (NetP l)) := by
  unfold impl_NetOk.f
  by_cases h1 : l.length < 1
  · simp (disch := omega) only [if_pos, if_neg, w64, rdn, rd0, tn, sc, Option.bind_some, ↓reduceIte, Bool.false_eq_true, Bool.true_eq_false]
    refine Ev.step (fun k => impl_NetOk.j0.eq_2 ..) ?_
    simp (disch := omega) only [if_pos, if_neg, w64, rdn, rd0, tn, sc, Option.bind_some, ↓reduceIte, Bool.false_eq_true, Bool.true_eq_false]
    have : ¬ NetP l := fun p => by have := p.1; omega
    exact Ev.val (by simp [this])
  · simp (disch := omega) only [if_pos, if_neg, w64, rdn, rd0, tn, sc, Option.bind_some, ↓reduceIte, Bool.false_eq_true, Bool.true_eq_false]
    refine Ev.step (fun k => impl_NetOk.j0.eq_2 ..) ?_
    by_cases h6 : l.length > 6
    · have : decide ((l.length : Int) > 6) = true := by simp; omega
      simp only [this]
      simp (disch := omega) only [if_pos, if_neg, w64, rdn, rd0, tn, sc, Option.bind_some, ↓reduceIte, Bool.false_eq_true, Bool.true_eq_false]
      have : ¬ NetP l := fun p => by have := p.2.1; omega
      exact Ev.val (by simp [this])
    · have : decide ((l.length : Int) > 6) = false := by simp; omega
      simp only [this]
      simp (disch := omega) only [if_pos, if_neg, w64, rdn, rd0, tn, sc, Option.bind_some, ↓reduceIte, Bool.false_eq_true, Bool.true_eq_false]
      exact impl_NetOk_l0 l (by omega) (by omega) _ 0 rfl (by omega) (fun j h => by omega)

theorem alive_ev : Ev (fun k => laws_alive.f k) true := by
  unfold laws_alive.f
  refine Ev.bind (impl_NetOk_ev _ (by decide)) ?_
  have e1 : decide (NetP [2, 1]) = true := by decide
  simp only [e1]
  simp (disch := omega) only [if_pos, if_neg, w64, rdn, rd0, tn, sc, Option.bind_some, ↓reduceIte, Bool.false_eq_true, Bool.true_eq_false]
  refine Ev.bind (impl_NetOk_ev _ (by decide)) ?_
  have e2 : decide (NetP [1]) = false := by decide
  simp only [e2, Bool.not_false]
  exact Ev.now _

/-- Each kind one more. -/
def raised (a : Int) (l : List Int) : List Int := mk l.length (fun i => (G l i + 1) % a)
theorem impl_RaisedState_l0 (a : Int) (l : List Int) (hs : StateP a l) : ∀ (d : Nat) (i : Nat), l.length - i = d → i ≤ l.length →
    Ev (fun k => impl_RaisedState.l0 k a (mk i (fun i => (G l i + 1) % a)) l (l.length : Int) (i : Int)) (mk l.length (fun i => (G l i + 1) % a)) := by
  intro d
  have h6 := hs.2.2.2.1
  have h3 := hs.1
  have h5 := hs.2.1
  induction d with
  | zero =>
    intro i hd hi
    obtain rfl : i = l.length := by omega
    refine Ev.step (fun k => impl_RaisedState.l0.eq_2 ..) ?_
    simp (disch := omega) only [if_pos, if_neg, w64, rdn, rd0, tn, sc, Option.bind_some, ↓reduceIte, Bool.false_eq_true, Bool.true_eq_false]
    exact Ev.now _
  | succ d ih =>
    intro i hd hi
    refine Ev.step (fun k => impl_RaisedState.l0.eq_2 ..) ?_
    have h := ih (i + 1) (by omega) (by omega)
    rw [mk_succ] at h
    have hb := hs.2.2.2.2 i (by omega)
    have e1 : Int.tmod (wrap64 (G l i + 1)) a = (G l i + 1) % a := by rw [w64 (by omega) (by omega), tmod_nn (by omega)]
    simp only [rdn, e1, mk_length]
    clear e1
    simp (disch := omega) only [if_pos, if_neg, w64, rdn, rd0, tn, sc, Option.bind_some, ↓reduceIte, Bool.false_eq_true, Bool.true_eq_false]
    exact h
theorem impl_RaisedState_ev (a : Int) (l : List Int) (hs : StateP a l) : Ev (fun k => impl_RaisedState.f k a l) (raised a l) := by
  unfold impl_RaisedState.f
  have h6 := hs.2.2.2.1
  refine Ev.bind (impl_StateOk_ev a l (by omega)) ?_
  simp only [hs, decide_true]
  simp (disch := omega) only [if_pos, if_neg, w64, rdn, rd0, tn, sc, Option.bind_some, ↓reduceIte, Bool.false_eq_true, Bool.true_eq_false]
  exact impl_RaisedState_l0 a l hs _ 0 rfl (by omega)
theorem impl_RaisedState_no (a : Int) (l : List Int) (hl : l.length ≤ 1048576) (hs : ¬ StateP a l) : Ev (fun k => impl_RaisedState.f k a l) [] := by
  unfold impl_RaisedState.f
  refine Ev.bind (impl_StateOk_ev a l hl) ?_
  simp only [hs, decide_false]
  simp (disch := omega) only [if_pos, if_neg, w64, rdn, rd0, tn, sc, Option.bind_some, ↓reduceIte, Bool.false_eq_true, Bool.true_eq_false]
  exact Ev.now _
theorem raised_length (a : Int) (l : List Int) : (raised a l).length = l.length := mk_length _ _
theorem raised_ok {a : Int} {l : List Int} (hs : StateP a l) : StateP a (raised a l) := by
  have h3 := hs.1
  refine ⟨hs.1, hs.2.1, ?_, ?_, ?_⟩
  · rw [raised_length]; exact hs.2.2.1
  · rw [raised_length]; exact hs.2.2.2.1
  · intro i hi
    rw [raised_length] at hi
    unfold raised
    rw [G_mk _ hi]
    exact ⟨Int.emod_nonneg _ (by omega), Int.emod_lt_of_pos _ (by omega)⟩

theorem rise_back (a b : Int) : rise b a = - rise a b := by unfold rise; omega
theorem rise_bd (a b : Int) : -1 ≤ rise a b ∧ rise a b ≤ 1 := by unfold rise; omega
theorem rise_up (a b : Int) : rise ((a + 1) % 3) ((b + 1) % 3) = rise a b := by unfold rise; omega
theorem riseOf_back (l : List Int) (a b : Int) : riseOf l b a = - riseOf l a b := by
  by_cases h : StateP 3 l ∧ 0 ≤ a ∧ a < l.length ∧ 0 ≤ b ∧ b < l.length
  · rw [riseOf, if_pos ⟨h.1, h.2.2.2.1, h.2.2.2.2, h.2.1, h.2.2.1⟩, riseOf, if_pos h, rise_back]
  · rw [riseOf_no (l := l) (a := a) (b := b) h, riseOf_no (fun g => h ⟨g.1, g.2.2.2.1, g.2.2.2.2, g.2.1, g.2.2.1⟩)]; rfl
theorem riseOf_bd (l : List Int) (a b : Int) : -1 ≤ riseOf l a b ∧ riseOf l a b ≤ 1 := by
  unfold riseOf
  split
  · exact rise_bd _ _
  · omega
theorem riseOf_raised {l : List Int} (hs : StateP 3 l) (a b : Int) : riseOf (raised 3 l) a b = riseOf l a b := by
  by_cases h : 0 ≤ a ∧ a < l.length ∧ 0 ≤ b ∧ b < l.length
  · obtain ⟨i, rfl⟩ := Int.eq_ofNat_of_zero_le h.1
    obtain ⟨j, rfl⟩ := Int.eq_ofNat_of_zero_le h.2.2.1
    rw [riseOf_yes (raised_ok hs) (by rw [raised_length]; omega) (by rw [raised_length]; omega), riseOf_yes hs (by omega) (by omega)]
    unfold raised
    rw [G_mk _ (by omega), G_mk _ (by omega), rise_up]
  · rw [riseOf_no (fun g => h g.2), riseOf_no (fun g => h (by have := g.2; rw [raised_length] at this; exact this))]
theorem FnRiseOf : laws_FnRiseOf.Pure := by
  intro l _ _ hwf
  refine Ev.rounds (r := true) ?_
  obtain ⟨s, a, b, hr, h6⟩ := DrawRiseOf_ev l hwf
  unfold laws_FnRiseOf.f
  by_cases hl : l.length ≤ 1048576
  · simp (disch := omega) only [if_pos, if_neg, w64, rdn, rd0, tn, sc, Option.bind_some, ↓reduceIte, Bool.false_eq_true, Bool.true_eq_false]
    refine Ev.bind hr ?_
    refine Ev.bind (impl_RiseOf_ev s a b (by omega)) ?_
    refine Ev.bind (spec_RiseOf_ev s a b (by omega)) ?_
    simp (disch := omega) only [if_pos, if_neg, w64, rdn, rd0, tn, sc, Option.bind_some, ↓reduceIte, Bool.false_eq_true, Bool.true_eq_false]
    refine Ev.bind (spec_StateOk_ev 3 s (by omega)) ?_
    by_cases hs : StateP 3 s
    · simp only [hs, decide_true]
      simp (disch := omega) only [if_pos, if_neg, w64, rdn, rd0, tn, sc, Option.bind_some, ↓reduceIte, Bool.false_eq_true, Bool.true_eq_false]
      refine Ev.bind (impl_RiseOf_ev s b a (by omega)) ?_
      have e1 := riseOf_back s a b
      have e2 := riseOf_bd s a b
      have e3 := riseOf_raised hs a b
      simp (disch := omega) only [if_pos, if_neg, w64, rdn, rd0, tn, sc, Option.bind_some, ↓reduceIte, Bool.false_eq_true, Bool.true_eq_false]
      refine Ev.bind (impl_RaisedState_ev 3 s hs) ?_
      refine Ev.bind (impl_RiseOf_ev _ a b (by rw [raised_length]; omega)) ?_
      simp (disch := omega) only [if_pos, if_neg, w64, rdn, rd0, tn, sc, Option.bind_some, ↓reduceIte, Bool.false_eq_true, Bool.true_eq_false]
      refine Ev.bind alive_ev ?_
      exact Ev.now _
    · have e0 : riseOf s a b = 0 := riseOf_no (fun h => hs h.1)
      simp only [hs, decide_false]
      simp (disch := omega) only [if_pos, if_neg, w64, rdn, rd0, tn, sc, Option.bind_some, ↓reduceIte, Bool.false_eq_true, Bool.true_eq_false]
      refine Ev.bind alive_ev ?_
      exact Ev.now _
  · simp (disch := omega) only [if_pos, if_neg, w64, rdn, rd0, tn, sc, Option.bind_some, ↓reduceIte, Bool.false_eq_true, Bool.true_eq_false]
    exact Ev.now _

end Go.Proofs.Ytppfjachcleolaa.Pure
