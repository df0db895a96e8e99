-- Written by a program of this session (the kit's print, changed).
import Derived.Test.YtbbafjmfdbjkaaaPFnWaveEndx0
import Derived.Test.YtbbafjmfdbjkaaaPFnWaveEndx1
import Derived.Test.YtbbafjmfdbjkaaaPFnWaveEndx4
namespace Go.Proofs.Ytbbafjmfdbjkaaa.PFnWaveEnd
open Go.RowKit Go.Proofs.YtbbafjmfdbjkaaaW.PrintWords Go.Proofs.YtbbafjmfdbjkaaaW.PrintLast Go.Proofs.YtbbafjmfdbjkaaaW.PrintMore
attribute [local go_sem] max2_int min2_int max_two min_two max_three min_three max_four min_four   -- for this text's walks alone
set_option linter.unusedVariables false
set_option linter.unusedSimpArgs false

/-! ### impl_needStep: function 73 -/
mutual
def impl_needStep.l0 : Nat → List Int → Int → List Int → List Int → List Int → Int → Int → Option (List Int)
  | 0, _, _, _, _, _, _, _ => none
  | k + 1, x0, x1, x3, x9, x19, x20, x21 => if x21 < x20 then (if 0 ≤ x21 then (if x21 < (x19.length : Int) then (if (rd x19 x21) > 0 then (if x1 = 0 then (none) else (if x21 < (x9.length : Int) then (impl_needStep.l0 k x0 x1 x3 (x9.set (x21 : Int).toNat (Int.tmod (wrap64 ((rd x19 x21) + 1)) x1)) x19 x20 (wrap64 (x21 + 1))) else (none))) else (impl_needStep.l1 k x0 x1 x3 x9 x21 0 1 x19 x20 x21 x3 (x3.length : Int) 0)) else (none)) else (none)) else (some x9)
def impl_needStep.l1 : Nat → List Int → Int → List Int → List Int → Int → Int → Int → List Int → Int → Int → List Int → Int → Int → Option (List Int)
  | 0, _, _, _, _, _, _, _, _, _, _, _, _, _ => none
  | k + 1, x0, x1, x3, x9, x10, x12, x13, x19, x20, x21, x35, x36, x37 => if x37 < x36 then (if 0 ≤ x37 then (if x37 < (x35.length : Int) then (if 0 ≤ x10 then (if x10 < (x0.length : Int) then (if (Go.bits .and .i64 (shr .i64 (rd x0 x10) x37) 1) = 1 then (if (rd x35 x37) = 1 then (impl_needStep.l1 k x0 x1 x3 x9 x10 (wrap64 (x12 + 1)) x13 x19 x20 x21 x35 x36 (wrap64 (x37 + 1))) else (impl_needStep.l1 k x0 x1 x3 x9 x10 x12 x13 x19 x20 x21 x35 x36 (wrap64 (x37 + 1)))) else (impl_needStep.l1 k x0 x1 x3 x9 x10 x12 x13 x19 x20 x21 x35 x36 (wrap64 (x37 + 1)))) else (none)) else (none)) else (none)) else (none)) else (if x12 ≥ x13 then (if 0 ≤ x10 then (if x10 < (x9.length : Int) then (impl_needStep.l0 k x0 x1 x3 (x9.set (x10 : Int).toNat 1) x19 x20 (wrap64 (x21 + 1))) else (none)) else (none)) else (impl_needStep.l0 k x0 x1 x3 x9 x19 x20 (wrap64 (x21 + 1))))
end
def impl_needStep.f (k : Nat) (l0 : List Int) (a1 : Int) (l2 : List Int) (l3 : List Int) : Option (List Int) := if 0 ≤ (l3.length : Int) then (if ((l3.length : Int) : Int).toNat ≤ 35184372088832 then (impl_needStep.l0 k l0 a1 l3 (List.replicate ((l3.length : Int) : Int).toNat 0) l3 (l3.length : Int) 0) else (none)) else (none)
theorem impl_needStep.mono_l : ∀ k, (∀ y0 y1 y2 y3 y4 y5 y6, LeO (impl_needStep.l0 k y0 y1 y2 y3 y4 y5 y6) (impl_needStep.l0 (k + 1) y0 y1 y2 y3 y4 y5 y6)) ∧ (∀ y0 y1 y2 y3 y4 y5 y6 y7 y8 y9 y10 y11 y12, LeO (impl_needStep.l1 k y0 y1 y2 y3 y4 y5 y6 y7 y8 y9 y10 y11 y12) (impl_needStep.l1 (k + 1) y0 y1 y2 y3 y4 y5 y6 y7 y8 y9 y10 y11 y12))
  | 0 => ⟨fun _ _ _ _ _ _ _ r h => by simp [impl_needStep.l0] at h, fun _ _ _ _ _ _ _ _ _ _ _ _ _ r h => by simp [impl_needStep.l1] at h⟩
  | k + 1 => by
    obtain ⟨ih0, ih1⟩ := impl_needStep.mono_l k
    refine ⟨?_, ?_⟩
    · intro y0 y1 y2 y3 y4 y5 y6
      unfold impl_needStep.l0
      repeat' first
      | (with_reducible exact ih0 _ _ _ _ _ _ _)
      | (with_reducible exact ih1 _ _ _ _ _ _ _ _ _ _ _ _ _)
      | (with_reducible exact LeO.refl _)
      | (with_reducible exact LeO.none _)
      | (with_reducible refine LeO.ite ?_ ?_)
      | (with_reducible refine LeO.bind ?_ (fun _ => ?_))
      | exact ih0 _ _ _ _ _ _ _
      | exact ih1 _ _ _ _ _ _ _ _ _ _ _ _ _
      | exact LeO.none _
      | refine LeO.ite ?_ ?_
      | refine LeO.bind ?_ (fun _ => ?_)
    · intro y0 y1 y2 y3 y4 y5 y6 y7 y8 y9 y10 y11 y12
      unfold impl_needStep.l1
      repeat' first
      | (with_reducible exact ih0 _ _ _ _ _ _ _)
      | (with_reducible exact ih1 _ _ _ _ _ _ _ _ _ _ _ _ _)
      | (with_reducible exact LeO.refl _)
      | (with_reducible exact LeO.none _)
      | (with_reducible refine LeO.ite ?_ ?_)
      | (with_reducible refine LeO.bind ?_ (fun _ => ?_))
      | exact ih0 _ _ _ _ _ _ _
      | exact ih1 _ _ _ _ _ _ _ _ _ _ _ _ _
      | exact LeO.none _
      | refine LeO.ite ?_ ?_
      | refine LeO.bind ?_ (fun _ => ?_)
theorem impl_needStep.mono : ∀ a0 a1 a2 a3 k, LeO (impl_needStep.f k a0 a1 a2 a3) (impl_needStep.f (k + 1) a0 a1 a2 a3) := by
  intro a0 a1 a2 a3 k
  obtain ⟨ih0, ih1⟩ := impl_needStep.mono_l k
  unfold impl_needStep.f
  repeat' first
      | (with_reducible exact ih0 _ _ _ _ _ _ _)
      | (with_reducible exact ih1 _ _ _ _ _ _ _ _ _ _ _ _ _)
      | (with_reducible exact LeO.refl _)
      | (with_reducible exact LeO.none _)
      | (with_reducible refine LeO.ite ?_ ?_)
      | (with_reducible refine LeO.bind ?_ (fun _ => ?_))
      | exact ih0 _ _ _ _ _ _ _
      | exact ih1 _ _ _ _ _ _ _ _ _ _ _ _ _
      | exact LeO.none _
      | refine LeO.ite ?_ ?_
      | refine LeO.bind ?_ (fun _ => ?_)
set_option maxHeartbeats 8000000 in
set_option maxRecDepth 100000 in
theorem impl_needStep.calls (k : Nat) (A0 : Option Addr) (c0 : Nat) (l0 : List Int) (a1 : Int) (A2 : Option Addr) (c2 : Nat) (l2 : List Int) (A3 : Option Addr) (c3 : Nat) (l3 : List Int) (r : List Int) (w : World) (hr0 : Kd.C (Kd.int .i64) w A0 l0.length l0) (hc0 : l0.length ≤ c0) (hr2 : Kd.C (Kd.int .i64) w A2 l2.length l2) (hc2 : l2.length ≤ c2) (hr3 : Kd.C (Kd.int .i64) w A3 l3.length l3) (hc3 : l3.length ≤ c3) (h : impl_needStep.f k l0 a1 l2 l3 = some r) :
    Calls Try.prog 73 #[.slice A0 l0.length c0, .int .i64 a1, .slice none 0 0, .slice A3 l3.length c3] w fun e w' => ∃ v0_ : Value, e = .returned (v0_) ∧ Kd.R (Kd.int .i64) 3 w' w.heap.size (fun _ => True) v0_ r ∧ Below w.heap.size w w' := by
  have HR0 := Aside0.mk hr0
  have HC0 := Aside0.mk hc0
  clear hr0 hc0
  have HR2 := Aside0.mk hr2
  have HC2 := Aside0.mk hc2
  clear hr2 hc2
  have HR3 := Aside0.mk hr3
  have HC3 := Aside0.mk hc3
  clear hr3 hc3
  have HB := Aside0.mk (Below.refl w.heap.size w)
  have H : (if 0 ≤ (l3.length : Int) then (if ((l3.length : Int) : Int).toNat ≤ 35184372088832 then (impl_needStep.l0 k l0 a1 l3 (List.replicate ((l3.length : Int) : Int).toNat 0) l3 (l3.length : Int) 0) else (none)) else (none)) = some r := h
  clear h
  by_cases c5 : 0 ≤ (l3.length : Int)
  · rw [if_pos c5] at H
    have LKc5 := Aside0.mk c5
    have c5b0 := eq_true c5
    have c5b1 : decide (0 ≤ (l3.length : Int)) = true := decide_eq_true c5
    clear c5
    by_cases c6 : ((l3.length : Int) : Int).toNat ≤ 35184372088832
    · rw [if_pos c6] at H
      have c6b0 := eq_true c6
      have c6b1 : decide (((l3.length : Int) : Int).toNat ≤ 35184372088832) = true := decide_eq_true c6
      clear c6
      obtain ⟨y208, hy208⟩ : ∃ y_ : List Int, y_ = (List.replicate ((l3.length : Int) : Int).toNat 0) := ⟨_, rfl⟩
      replace H : (impl_needStep.l0 k l0 a1 l3 y208 l3 (l3.length : Int) 0) = some r := by first | (rw [hy208]; with_reducible exact H) | (have H2_ := (Option.bind_some _ _).symm.trans H; rw [hy208]; with_reducible exact H2_) | (have H2_ := (Option.bind_some _ _).symm.trans H; with_reducible exact H2_) | with_reducible exact H | (rw [hy208]; exact H) | exact H
      have Ny208 := Aside0.mk hy208
      clear hy208
      have H' := Aside0.mk H
      clear H
      go_enter Try.func73, Try.ntmps73
      go_wp2_with (first | ((with_reducible refine gate_dst (N := 18) rfl ?_); refine Kd.R_make (Kd.int .i64) _ 3 rfl (N := 18) rfl 30 _ _ rfl (l3.length : Int) rfl rfl Try.underlying30 (.int .i64 0) 8 info3 rfl (by decide) (by omega) 0 (ok := fun _ => True) (okp := fun _ => True) rfl (fun _ hk => hk) trivial (of_decide_eq_true (by first | (with_reducible assumption) | assumption)) (Nat.le_trans (Nat.mul_le_mul_right _ (of_decide_eq_true (by first | (with_reducible assumption) | assumption) : (l3.length : Int).toNat ≤ 35184372088832)) (by omega)) (Below.refl _ _) (Nat.le_refl _) ?_; intro v209 w7 ho8 hb hg_ hnew_; clear hg_ hnew_; (first | rw [← Ny208.out] at ho8 | (simp only [Int.reduceToNat] at ho8; rw [← Ny208.out] at ho8)); have n0_ := Aside0.mk (Kd.R_lower ho8 (below_size (by repeat (first | (with_reducible first | exact HB.out | apply below_alloc | apply pw_below_drewN | apply below_drew1) | exact HB.out)))); have n1_ := Aside0.mk (below_step (by repeat (first | (with_reducible first | exact HB.out | apply below_alloc | apply pw_below_drewN | apply below_drew1) | exact HB.out)) hb); clear HB; have HO210 := n0_; have HB := n1_; clear n0_ n1_; clear hb ho8))
      go_loopg [21] k (fun kq v21 w' => ∃ (x9_1 : List Int) (x21_1 : Int), v21 = .int .i64 x21_1 ∧ Aside0 (impl_needStep.l0 kq l0 a1 l3 x9_1 l3 (l3.length : Int) x21_1 = some r) ∧ Aside0 (kq ≤ k) ∧ Aside0 (Kd.R (Kd.int .i64) 3 w' w.heap.size (fun _ => True) v209 x9_1) ∧ Aside0 (Below w.heap.size w w'))
      case atStart => exact ⟨(y208), (0), (by first | rfl | (simp; done) | (simp [*]; done)), H', ⟨Nat.le_refl _⟩, ⟨by (with_reducible repeat (first | apply Kd.R_alloc | apply Kd.R_drewN | apply Kd.R_drew)); exact HO210.out⟩, ⟨by repeat (first | (with_reducible first | exact HB.out | apply below_alloc | apply pw_below_drewN | apply below_drew1) | exact HB.out)⟩⟩
      case round =>
        clear H'
        try clear c2
        try clear p2
        try clear c3
        try clear c5
        try clear c5b0
        try clear c5b1
        try clear c6
        try clear c6b0
        try clear c6b1
        try clear c7
        obtain ⟨x9_1, x21_1, rfl, HA, HK1, HO_9, HB⟩ := hrel
        cases gk with
        | zero => exact absurd HA.out (by simp [impl_needStep.l0])
        | succ k1 =>
          have H := HA.out
          clear HA
          simp only [impl_needStep.l0] at H
          by_cases c9 : x21_1 < (l3.length : Int)
          · rw [if_pos c9] at H
            have c9b0 : decide (x21_1 < (l3.length : Int)) = true := decide_eq_true c9
            clear c9
            by_cases c10 : 0 ≤ x21_1
            · rw [if_pos c10] at H
              have c10b0 : decide (0 ≤ x21_1) = true := decide_eq_true c10
              clear c10
              by_cases c11 : x21_1 < (l3.length : Int)
              · rw [if_pos c11] at H
                have c11b0 : decide (x21_1 < (l3.length : Int)) = true := decide_eq_true c11
                clear c11
                by_cases c12 : (rd l3 x21_1) > 0
                · rw [if_pos c12] at H
                  have c12b0 : decide (0 < (rd l3 x21_1)) = true := decide_eq_true c12
                  clear c12
                  by_cases c13 : a1 = 0
                  · rw [if_pos c13] at H
                    exact absurd H (by simp)
                  · rw [if_neg c13] at H
                    have c13b0 : (a1 == 0) = false := beq_eq_false_iff_ne.mpr c13
                    have c13b1 : (a1 != 0) = true := bne_iff_ne.mpr c13
                    by_cases c14 : x21_1 < (x9_1.length : Int)
                    · rw [if_pos c14] at H
                      have c14b0 : decide (x21_1 < (x9_1.length : Int)) = true := decide_eq_true c14
                      clear c14
                      obtain ⟨y212, hy212⟩ : ∃ y_ : List Int, y_ = (x9_1.set (x21_1 : Int).toNat (Int.tmod (wrap64 ((rd l3 x21_1) + 1)) a1)) := ⟨_, rfl⟩
                      replace H : (impl_needStep.l0 k1 l0 a1 l3 y212 l3 (l3.length : Int) (wrap64 (x21_1 + 1))) = some r := by first | (rw [hy212]; with_reducible exact H) | (have H2_ := (Option.bind_some _ _).symm.trans H; rw [hy212]; with_reducible exact H2_) | (have H2_ := (Option.bind_some _ _).symm.trans H; with_reducible exact H2_) | with_reducible exact H | (rw [hy212]; exact H) | exact H
                      have Ny212 := Aside0.mk hy212
                      clear hy212
                      have H' := Aside0.mk H
                      clear H
                      have p211 : 0 ≤ (x21_1 : Int) := of_decide_eq_true (by first | (with_reducible assumption) | assumption)
                      have q211 : x21_1 < (l3.length : Int) := of_decide_eq_true (by first | (with_reducible assumption) | assumption)
                      obtain ⟨ad211, e211, hx211_0⟩ := Kd.at_int HR3.out x21_1 p211 q211
                      cases e211
                      replace hx211_0 := (HB.out.cell (World.block_lt_of_cell? w _ hx211_0)).trans hx211_0
                      replace p211 := eq_true p211
                      replace q211 := eq_true q211
                      have p15 : 0 ≤ (x21_1 : Int) := of_decide_eq_true (by first | (with_reducible assumption) | assumption)
                      have q15 : (x21_1 : Int) < ((x9_1.length : Int) : Int) := of_decide_eq_true (by first | (with_reducible assumption) | assumption)
                      obtain ⟨go15, co15, eo15, gb15, gl15, cl15, HG15⟩ := Kd.R_form HO_9.out (by omega)
                      (first | cases eo15 | (injection eo15 with ea_ en_ ec_; (first | subst ea_ | (injection ea_ with ea_; subst ea_)); subst ec_; clear en_))
                      have GB15 := Aside0.mk gb15
                      have GG15 := Aside0.mk HG15
                      clear gb15 gl15 HG15
                      obtain ⟨hx15_0, hf15_0⟩ := Kd.R_celln 0 HO_9.out (x21_1 : Int) p15 q15
                      replace p15 := eq_true p15
                      replace q15 := eq_true q15
                      have HP16 := Kd.R_putg HO_9.out (x21_1 : Int) (Int.tmod (wrap64 ((rd l3 x21_1) + 1)) a1)
                      go_wp2_with (first | ((with_reducible refine gate_store (t := 3) (p := 34) rfl ?_); refine store_event (t := 3) (p := 34) (v := ?vo_w17) (w1 := (wr.setCell ⟨go15, (x21_1 : Int).toNat, none⟩ (.int .i64 (Int.tmod (wrap64 ((rd l3 x21_1) + 1)) a1)))) ?hg ?ho ?hn ?hr ?_; (case ho => rfl); (case hg => rfl); (case hn => rfl); (case hr => first | (go_simp; done) | (go_simp; rfl)); intro w17 hw; have hg : wr.grownBy w17 (some go15) := (by rw [hw]; exact HP16.2); have hp_ : Kd.R (Kd.int .i64) 3 w17 w.heap.size (fun _ => True) (.slice (some ⟨go15, 0, none⟩) x9_1.length co15) y212 := (by rw [hw, Ny212.out]; exact HP16.1); clear HP16; have n0_ := Aside0.mk (hp_); have n1_ := Aside0.mk ((by rw [hw]; exact below_set (HB.out) GB15.out : Below w.heap.size w w17)); clear HO_9; clear HB; have HO_9 := n0_; have HB := n1_; clear n0_ n1_; clear hg hw hp_))
                      go_roundg k1
                      case measure => have := HK1.out; omega
                      case rel => exact ⟨(y212), (wrap64 (x21_1 + 1)), (by first | rfl | (simp; done) | (simp [*]; done)), H', ⟨by have := HK1.out; omega⟩, ⟨by (with_reducible repeat (first | apply Kd.R_alloc | apply Kd.R_drewN | apply Kd.R_drew)); exact HO_9.out⟩, ⟨by repeat (first | (with_reducible first | exact HB.out | apply below_alloc | apply pw_below_drewN | apply below_drew1) | exact HB.out)⟩⟩
                    · rw [if_neg c14] at H
                      exact absurd H (by simp)
                · rw [if_neg c12] at H
                  have c12b0 : decide (0 < (rd l3 x21_1)) = false := decide_eq_false c12
                  clear c12
                  have H' := Aside0.mk H
                  clear H
                  have p211 : 0 ≤ (x21_1 : Int) := of_decide_eq_true (by first | (with_reducible assumption) | assumption)
                  have q211 : x21_1 < (l3.length : Int) := of_decide_eq_true (by first | (with_reducible assumption) | assumption)
                  obtain ⟨ad211, e211, hx211_0⟩ := Kd.at_int HR3.out x21_1 p211 q211
                  cases e211
                  replace hx211_0 := (HB.out.cell (World.block_lt_of_cell? w _ hx211_0)).trans hx211_0
                  replace p211 := eq_true p211
                  replace q211 := eq_true q211
                  go_wp2
                  go_loopg [12, 37] k1 (fun kq v12 v37 w' => ∃ (x12_2 : Int) (x37_2 : Int), v12 = .int .i64 x12_2 ∧ v37 = .int .i64 x37_2 ∧ Aside0 (impl_needStep.l1 kq l0 a1 l3 x9_1 x21_1 x12_2 1 l3 (l3.length : Int) x21_1 l3 (l3.length : Int) x37_2 = some r) ∧ Aside0 (kq ≤ k1) ∧ Aside0 (Kd.R (Kd.int .i64) 3 w' w.heap.size (fun _ => True) v209 x9_1) ∧ Aside0 (Below w.heap.size w w'))
                  case atStart => exact ⟨(0), (0), (by first | rfl | (simp; done) | (simp [*]; done)), (by first | rfl | (simp; done) | (simp [*]; done)), H', ⟨Nat.le_refl _⟩, ⟨by (with_reducible repeat (first | apply Kd.R_alloc | apply Kd.R_drewN | apply Kd.R_drew)); exact HO_9.out⟩, ⟨by repeat (first | (with_reducible first | exact HB.out | apply below_alloc | apply pw_below_drewN | apply below_drew1) | exact HB.out)⟩⟩
                  case round =>
                    clear H'
                    try clear c1
                    try clear p1
                    try clear q1
                    try clear hx1
                    try clear c2
                    try clear p2
                    try clear q2
                    try clear hx2
                    try clear c3
                    try clear c5
                    try clear c5b0
                    try clear c5b1
                    try clear c6
                    try clear c6b0
                    try clear c6b1
                    try clear p6
                    try clear c7
                    try clear c9
                    try clear c9b0
                    try clear c10
                    try clear c10b0
                    try clear c11
                    try clear c11b0
                    try clear c12
                    try clear c12b0
                    try clear c13
                    try clear c13b0
                    try clear c13b1
                    try clear c14
                    try clear c14b0
                    try clear p15
                    try clear q15
                    try clear hx15
                    try clear hf15
                    try clear hx15_0
                    try clear hx211_0
                    try clear p15
                    try clear p2
                    try clear p211
                    try clear q15
                    try clear q211
                    obtain ⟨x12_2, x37_2, rfl, rfl, HA, HK2, HO_9, HB⟩ := hrel
                    cases gk with
                    | zero => exact absurd HA.out (by simp [impl_needStep.l1])
                    | succ k2 =>
                      have H := HA.out
                      clear HA
                      simp only [impl_needStep.l1] at H
                      by_cases c18 : x37_2 < (l3.length : Int)
                      · rw [if_pos c18] at H
                        have c18b0 : decide (x37_2 < (l3.length : Int)) = true := decide_eq_true c18
                        clear c18
                        by_cases c19 : 0 ≤ x37_2
                        · rw [if_pos c19] at H
                          have c19b0 : decide (0 ≤ x37_2) = true := decide_eq_true c19
                          clear c19
                          by_cases c20 : x37_2 < (l3.length : Int)
                          · rw [if_pos c20] at H
                            have c20b0 : decide (x37_2 < (l3.length : Int)) = true := decide_eq_true c20
                            clear c20
                            by_cases c21 : 0 ≤ x21_1
                            · rw [if_pos c21] at H
                              have c21b0 : decide (0 ≤ x21_1) = true := decide_eq_true c21
                              clear c21
                              by_cases c22 : x21_1 < (l0.length : Int)
                              · rw [if_pos c22] at H
                                have c22b0 : decide (x21_1 < (l0.length : Int)) = true := decide_eq_true c22
                                clear c22
                                have c23b0 := eq_true (of_decide_eq_true (by first | (with_reducible assumption) | assumption) : 0 ≤ x37_2)
                                obtain ⟨ji24, hji24⟩ : ∃ j_ : Int, (shr .i64 (rd l0 x21_1) x37_2) = j_ := ⟨_, rfl⟩
                                replace H : (if (Go.bits .and .i64 (ji24) 1) = 1 then (if (rd l3 x37_2) = 1 then (impl_needStep.l1 k2 l0 a1 l3 x9_1 x21_1 (wrap64 (x12_2 + 1)) 1 l3 (l3.length : Int) x21_1 l3 (l3.length : Int) (wrap64 (x37_2 + 1))) else (impl_needStep.l1 k2 l0 a1 l3 x9_1 x21_1 x12_2 1 l3 (l3.length : Int) x21_1 l3 (l3.length : Int) (wrap64 (x37_2 + 1)))) else (impl_needStep.l1 k2 l0 a1 l3 x9_1 x21_1 x12_2 1 l3 (l3.length : Int) x21_1 l3 (l3.length : Int) (wrap64 (x37_2 + 1)))) = some r := by first | (rw [hji24] at H; exact H) | (simp only [hji24] at H ⊢; exact H)
                                have hji24_ : ((rd l0 x21_1) / 2 ^ min x37_2.toNat 64) = ji24 := hji24
                                have hji24z : x37_2 ≤ 64 → ((rd l0 x21_1) / 2 ^ x37_2.toNat) = ji24 := shr_small hji24
                                by_cases c25 : (Go.bits .and .i64 (ji24) 1) = 1
                                · rw [if_pos c25] at H
                                  have c25b0 : ((Go.bits .and .i64 (ji24) 1) == 1) = true := beq_iff_eq.mpr c25
                                  have c25b1 : ((Go.bits .and .i64 (ji24) 1) != 1) = false := bne_eq_false_iff_eq.mpr c25
                                  clear c25
                                  by_cases c26 : (rd l3 x37_2) = 1
                                  · rw [if_pos c26] at H
                                    have c26b0 : ((rd l3 x37_2) == 1) = true := beq_iff_eq.mpr c26
                                    have c26b1 : ((rd l3 x37_2) != 1) = false := bne_eq_false_iff_eq.mpr c26
                                    clear c26
                                    have H' := Aside0.mk H
                                    clear H
                                    have p213 : 0 ≤ (x37_2 : Int) := of_decide_eq_true (by first | (with_reducible assumption) | assumption)
                                    have q213 : x37_2 < (l3.length : Int) := of_decide_eq_true (by first | (with_reducible assumption) | assumption)
                                    obtain ⟨ad213, e213, hx213_0⟩ := Kd.at_int HR3.out x37_2 p213 q213
                                    obtain rfl : ad211 = ad213 := (by injection e213)
                                    replace hx213_0 := (HB.out.cell (World.block_lt_of_cell? w _ hx213_0)).trans hx213_0
                                    replace p213 := eq_true p213
                                    replace q213 := eq_true q213
                                    have p214 : 0 ≤ (x21_1 : Int) := of_decide_eq_true (by first | (with_reducible assumption) | assumption)
                                    have q214 : x21_1 < (l0.length : Int) := of_decide_eq_true (by first | (with_reducible assumption) | assumption)
                                    obtain ⟨ad214, e214, hx214_0⟩ := Kd.at_int HR0.out x21_1 p214 q214
                                    cases e214
                                    replace hx214_0 := (HB.out.cell (World.block_lt_of_cell? w _ hx214_0)).trans hx214_0
                                    replace p214 := eq_true p214
                                    replace q214 := eq_true q214
                                    go_wp2
                                    go_roundg k2
                                    case measure => have := HK1.out; have := HK2.out; omega
                                    case rel => exact ⟨(wrap64 (x12_2 + 1)), (wrap64 (x37_2 + 1)), (by first | rfl | (simp; done) | (simp [*]; done)), (by first | rfl | (simp; done) | (simp [*]; done)), H', ⟨by have := HK1.out; have := HK2.out; omega⟩, ⟨by (with_reducible repeat (first | apply Kd.R_alloc | apply Kd.R_drewN | apply Kd.R_drew)); exact HO_9.out⟩, ⟨by repeat (first | (with_reducible first | exact HB.out | apply below_alloc | apply pw_below_drewN | apply below_drew1) | exact HB.out)⟩⟩
                                  · rw [if_neg c26] at H
                                    have c26b0 : ((rd l3 x37_2) == 1) = false := beq_eq_false_iff_ne.mpr c26
                                    have c26b1 : ((rd l3 x37_2) != 1) = true := bne_iff_ne.mpr c26
                                    have H' := Aside0.mk H
                                    clear H
                                    have p213 : 0 ≤ (x37_2 : Int) := of_decide_eq_true (by first | (with_reducible assumption) | assumption)
                                    have q213 : x37_2 < (l3.length : Int) := of_decide_eq_true (by first | (with_reducible assumption) | assumption)
                                    obtain ⟨ad213, e213, hx213_0⟩ := Kd.at_int HR3.out x37_2 p213 q213
                                    obtain rfl : ad211 = ad213 := (by injection e213)
                                    replace hx213_0 := (HB.out.cell (World.block_lt_of_cell? w _ hx213_0)).trans hx213_0
                                    replace p213 := eq_true p213
                                    replace q213 := eq_true q213
                                    have p214 : 0 ≤ (x21_1 : Int) := of_decide_eq_true (by first | (with_reducible assumption) | assumption)
                                    have q214 : x21_1 < (l0.length : Int) := of_decide_eq_true (by first | (with_reducible assumption) | assumption)
                                    obtain ⟨ad214, e214, hx214_0⟩ := Kd.at_int HR0.out x21_1 p214 q214
                                    cases e214
                                    replace hx214_0 := (HB.out.cell (World.block_lt_of_cell? w _ hx214_0)).trans hx214_0
                                    replace p214 := eq_true p214
                                    replace q214 := eq_true q214
                                    go_wp2
                                    go_roundg k2
                                    case measure => have := HK1.out; have := HK2.out; omega
                                    case rel => exact ⟨(x12_2), (wrap64 (x37_2 + 1)), (by first | rfl | (simp; done) | (simp [*]; done)), (by first | rfl | (simp; done) | (simp [*]; done)), H', ⟨by have := HK1.out; have := HK2.out; omega⟩, ⟨by (with_reducible repeat (first | apply Kd.R_alloc | apply Kd.R_drewN | apply Kd.R_drew)); exact HO_9.out⟩, ⟨by repeat (first | (with_reducible first | exact HB.out | apply below_alloc | apply pw_below_drewN | apply below_drew1) | exact HB.out)⟩⟩
                                · rw [if_neg c25] at H
                                  have c25b0 : ((Go.bits .and .i64 (ji24) 1) == 1) = false := beq_eq_false_iff_ne.mpr c25
                                  have c25b1 : ((Go.bits .and .i64 (ji24) 1) != 1) = true := bne_iff_ne.mpr c25
                                  have H' := Aside0.mk H
                                  clear H
                                  have p213 : 0 ≤ (x37_2 : Int) := of_decide_eq_true (by first | (with_reducible assumption) | assumption)
                                  have q213 : x37_2 < (l3.length : Int) := of_decide_eq_true (by first | (with_reducible assumption) | assumption)
                                  obtain ⟨ad213, e213, hx213_0⟩ := Kd.at_int HR3.out x37_2 p213 q213
                                  obtain rfl : ad211 = ad213 := (by injection e213)
                                  replace hx213_0 := (HB.out.cell (World.block_lt_of_cell? w _ hx213_0)).trans hx213_0
                                  replace p213 := eq_true p213
                                  replace q213 := eq_true q213
                                  have p214 : 0 ≤ (x21_1 : Int) := of_decide_eq_true (by first | (with_reducible assumption) | assumption)
                                  have q214 : x21_1 < (l0.length : Int) := of_decide_eq_true (by first | (with_reducible assumption) | assumption)
                                  obtain ⟨ad214, e214, hx214_0⟩ := Kd.at_int HR0.out x21_1 p214 q214
                                  cases e214
                                  replace hx214_0 := (HB.out.cell (World.block_lt_of_cell? w _ hx214_0)).trans hx214_0
                                  replace p214 := eq_true p214
                                  replace q214 := eq_true q214
                                  go_wp2
                                  go_roundg k2
                                  case measure => have := HK1.out; have := HK2.out; omega
                                  case rel => exact ⟨(x12_2), (wrap64 (x37_2 + 1)), (by first | rfl | (simp; done) | (simp [*]; done)), (by first | rfl | (simp; done) | (simp [*]; done)), H', ⟨by have := HK1.out; have := HK2.out; omega⟩, ⟨by (with_reducible repeat (first | apply Kd.R_alloc | apply Kd.R_drewN | apply Kd.R_drew)); exact HO_9.out⟩, ⟨by repeat (first | (with_reducible first | exact HB.out | apply below_alloc | apply pw_below_drewN | apply below_drew1) | exact HB.out)⟩⟩
                              · rw [if_neg c22] at H
                                exact absurd H (by simp)
                            · rw [if_neg c21] at H
                              exact absurd H (by simp)
                          · rw [if_neg c20] at H
                            exact absurd H (by simp)
                        · rw [if_neg c19] at H
                          exact absurd H (by simp)
                      · rw [if_neg c18] at H
                        have c18b0 : decide (x37_2 < (l3.length : Int)) = false := decide_eq_false c18
                        clear c18
                        have hnq_nil := neq_isnil Try.underlying30
                        by_cases c27 : x12_2 ≥ 1
                        · rw [if_pos c27] at H
                          have c27b0 : decide (1 ≤ x12_2) = true := decide_eq_true c27
                          clear c27
                          by_cases c28 : 0 ≤ x21_1
                          · rw [if_pos c28] at H
                            have c28b0 : decide (0 ≤ x21_1) = true := decide_eq_true c28
                            clear c28
                            by_cases c29 : x21_1 < (x9_1.length : Int)
                            · rw [if_pos c29] at H
                              have c29b0 : decide (x21_1 < (x9_1.length : Int)) = true := decide_eq_true c29
                              clear c29
                              obtain ⟨y215, hy215⟩ : ∃ y_ : List Int, y_ = (x9_1.set (x21_1 : Int).toNat 1) := ⟨_, rfl⟩
                              replace H : (impl_needStep.l0 k2 l0 a1 l3 y215 l3 (l3.length : Int) (wrap64 (x21_1 + 1))) = some r := by first | (rw [hy215]; with_reducible exact H) | (have H2_ := (Option.bind_some _ _).symm.trans H; rw [hy215]; with_reducible exact H2_) | (have H2_ := (Option.bind_some _ _).symm.trans H; with_reducible exact H2_) | with_reducible exact H | (rw [hy215]; exact H) | exact H
                              have Ny215 := Aside0.mk hy215
                              clear hy215
                              have H' := Aside0.mk H
                              clear H
                              have p30 : 0 ≤ (x21_1 : Int) := of_decide_eq_true (by first | (with_reducible assumption) | assumption)
                              have q30 : (x21_1 : Int) < ((x9_1.length : Int) : Int) := of_decide_eq_true (by first | (with_reducible assumption) | assumption)
                              obtain ⟨go30, co30, eo30, gb30, gl30, cl30, HG30⟩ := Kd.R_form HO_9.out (by omega)
                              (first | cases eo30 | (injection eo30 with ea_ en_ ec_; (first | subst ea_ | (injection ea_ with ea_; subst ea_)); subst ec_; clear en_))
                              have GB30 := Aside0.mk gb30
                              have GG30 := Aside0.mk HG30
                              clear gb30 gl30 HG30
                              obtain ⟨hx30_0, hf30_0⟩ := Kd.R_celln 0 HO_9.out (x21_1 : Int) p30 q30
                              replace p30 := eq_true p30
                              replace q30 := eq_true q30
                              have HP31 := Kd.R_putg HO_9.out (x21_1 : Int) 1
                              go_wp2_with (first | ((with_reducible refine gate_store (t := 3) (p := 68) rfl ?_); refine store_event (t := 3) (p := 68) (v := ?vo_w32) (w1 := (wr.setCell ⟨go30, (x21_1 : Int).toNat, none⟩ (.int .i64 1))) ?hg ?ho ?hn ?hr ?_; (case ho => rfl); (case hg => rfl); (case hn => rfl); (case hr => first | (go_simp; done) | (go_simp; rfl)); intro w32 hw; have hg : wr.grownBy w32 (some go30) := (by rw [hw]; exact HP31.2); have hp_ : Kd.R (Kd.int .i64) 3 w32 w.heap.size (fun _ => True) (.slice (some ⟨go30, 0, none⟩) x9_1.length co30) y215 := (by rw [hw, Ny215.out]; exact HP31.1); clear HP31; have n0_ := Aside0.mk (hp_); have n1_ := Aside0.mk ((by rw [hw]; exact below_set (HB.out) GB30.out : Below w.heap.size w w32)); clear HO_9; clear HB; have HO_9 := n0_; have HB := n1_; clear n0_ n1_; clear hg hw hp_))
                              go_roundg k2
                              case measure => have := HK1.out; have := HK2.out; omega
                              case rel => exact ⟨(y215), (wrap64 (x21_1 + 1)), (by first | rfl | (simp; done) | (simp [*]; done)), H', ⟨by have := HK1.out; have := HK2.out; omega⟩, ⟨by (with_reducible repeat (first | apply Kd.R_alloc | apply Kd.R_drewN | apply Kd.R_drew)); exact HO_9.out⟩, ⟨by repeat (first | (with_reducible first | exact HB.out | apply below_alloc | apply pw_below_drewN | apply below_drew1) | exact HB.out)⟩⟩
                            · rw [if_neg c29] at H
                              exact absurd H (by simp)
                          · rw [if_neg c28] at H
                            exact absurd H (by simp)
                        · rw [if_neg c27] at H
                          have c27b0 : decide (1 ≤ x12_2) = false := decide_eq_false c27
                          clear c27
                          have H' := Aside0.mk H
                          clear H
                          go_wp2
                          go_roundg k2
                          case measure => have := HK1.out; have := HK2.out; omega
                          case rel => exact ⟨(x9_1), (wrap64 (x21_1 + 1)), (by first | rfl | (simp; done) | (simp [*]; done)), H', ⟨by have := HK1.out; have := HK2.out; omega⟩, ⟨by (with_reducible repeat (first | apply Kd.R_alloc | apply Kd.R_drewN | apply Kd.R_drew)); exact HO_9.out⟩, ⟨by repeat (first | (with_reducible first | exact HB.out | apply below_alloc | apply pw_below_drewN | apply below_drew1) | exact HB.out)⟩⟩
              · rw [if_neg c11] at H
                exact absurd H (by simp)
            · rw [if_neg c10] at H
              exact absurd H (by simp)
          · rw [if_neg c9] at H
            have c9b0 : decide (x21_1 < (l3.length : Int)) = false := decide_eq_false c9
            clear c9
            obtain rfl := Option.some.inj H
            go_wp2
            go_ret
            exact ⟨_, by first | rfl | (simp [errW_none, errW_some] <;> rfl) | (simp [*, errW_none, errW_some] <;> rfl), by (with_reducible repeat (first | apply Kd.R_alloc | apply Kd.R_drewN | apply Kd.R_drew)); exact HO_9.out, by repeat (first | (with_reducible first | exact HB.out | apply below_alloc | apply pw_below_drewN | apply below_drew1) | exact HB.out)⟩
    · rw [if_neg c6] at H
      exact absurd H (by simp)
  · rw [if_neg c5] at H
    exact absurd H (by simp)

/-! ### impl_NumberOf: function 74 -/
def impl_NumberOf.l0 : Nat → Int → List Int → Int → Int → Option (Int)
  | 0, _, _, _, _ => none
  | k + 1, x0, x1, x5, x6 => if x6 ≥ 0 then (if 0 ≤ x6 then (if x6 < (x1.length : Int) then (impl_NumberOf.l0 k x0 x1 (wrap64 ((wrap64 (x5 * x0)) + (rd x1 x6))) (wrap64 (x6 - 1))) else (none)) else (none)) else (some x5)
def impl_NumberOf.f (k : Nat) (a0 : Int) (l1 : List Int) : Option (Int) := (impl_StateOk.f k a0 l1).bind fun t216 => (if t216 = true then (impl_NumberOf.l0 k a0 l1 0 (wrap64 ((l1.length : Int) - 1))) else (some (-1)))
theorem impl_NumberOf.mono_l : ∀ k, (∀ y0 y1 y2 y3, LeO (impl_NumberOf.l0 k y0 y1 y2 y3) (impl_NumberOf.l0 (k + 1) y0 y1 y2 y3))
  | 0 => fun _ _ _ _ r h => by simp [impl_NumberOf.l0] at h
  | k + 1 => by
    have ih0 := impl_NumberOf.mono_l k
    · intro y0 y1 y2 y3
      unfold impl_NumberOf.l0
      repeat' first
      | (with_reducible exact ih0 _ _ _ _)
      | (with_reducible exact impl_StateOk.mono _ _ _)
      | (with_reducible exact LeO.refl _)
      | (with_reducible exact LeO.none _)
      | (with_reducible refine LeO.ite ?_ ?_)
      | (with_reducible refine LeO.bind ?_ (fun _ => ?_))
      | exact ih0 _ _ _ _
      | exact impl_StateOk.mono _ _ _
      | exact LeO.none _
      | refine LeO.ite ?_ ?_
      | refine LeO.bind ?_ (fun _ => ?_)
theorem impl_NumberOf.mono : ∀ a0 a1 k, LeO (impl_NumberOf.f k a0 a1) (impl_NumberOf.f (k + 1) a0 a1) := by
  intro a0 a1 k
  have ih0 := impl_NumberOf.mono_l k
  unfold impl_NumberOf.f
  repeat' first
      | (with_reducible exact ih0 _ _ _ _)
      | (with_reducible exact impl_StateOk.mono _ _ _)
      | (with_reducible exact LeO.refl _)
      | (with_reducible exact LeO.none _)
      | (with_reducible refine LeO.ite ?_ ?_)
      | (with_reducible refine LeO.bind ?_ (fun _ => ?_))
      | exact ih0 _ _ _ _
      | exact impl_StateOk.mono _ _ _
      | exact LeO.none _
      | refine LeO.ite ?_ ?_
      | refine LeO.bind ?_ (fun _ => ?_)
set_option maxHeartbeats 8000000 in
set_option maxRecDepth 100000 in
theorem impl_NumberOf.calls (k : Nat) (a0 : Int) (A1 : Option Addr) (c1 : Nat) (l1 : List Int) (r : Int) (w : World) (hr1 : Kd.C (Kd.int .i64) w A1 l1.length l1) (hc1 : l1.length ≤ c1) (h : impl_NumberOf.f k a0 l1 = some r) :
    Calls Try.prog 74 #[.int .i64 a0, .slice A1 l1.length c1] w fun e w' => e = .returned (.int .i64 r) ∧ Drawn0 w w' := by
  have HR1 := Aside0.mk hr1
  have HC1 := Aside0.mk hc1
  clear hr1 hc1
  have H : ((impl_StateOk.f k a0 l1).bind fun t216 => (if t216 = true then (impl_NumberOf.l0 k a0 l1 0 (wrap64 ((l1.length : Int) - 1))) else (some (-1)))) = some r := h
  clear h
  replace H := Option.bind_eq_some_iff.mp H
  obtain ⟨t216, A30, H⟩ := H
  replace H : (if t216 = true then (impl_NumberOf.l0 k a0 l1 0 (wrap64 ((l1.length : Int) - 1))) else (some (-1))) = some r := H
  have A3 := Aside0.mk A30
  clear A30
  by_cases c4 : t216 = true
  · subst c4
    have H1 : (impl_NumberOf.l0 k a0 l1 0 (wrap64 ((l1.length : Int) - 1))) = some r := by rw [if_pos rfl] at H; exact H
    clear H
    have H := H1
    clear H1
    have H' := Aside0.mk H
    clear H
    go_enter Try.func74, Try.ntmps74
    go_wp2_with (first | ((with_reducible refine gate_callee (f := 67) rfl ?_); refine goesL_ (some 9) rfl rfl Try.func67 (by kernel_rfl) rfl #[.int .i64 a0, .slice A1 l1.length c1] rfl (by (try simp only [List.map_toArray, List.map_cons, List.map_nil]); first | done | rfl | (simp only [List.length_drop, List.length_take]; rfl)) ?_; (with_reducible refine (impl_StateOk.calls k a0 _ _ l1 true _ ?side1 ?side2 A3.out).mono ?_); (case side1 => repeat (first | exact HR1.out | (with_reducible refine Kd.C_alloc ?_ _) | (with_reducible refine Kd.C_drewN ?_ _) | (with_reducible refine Kd.C_drew ?_))); (case side2 => exact HC1.out); rintro e w' ⟨rfl, ⟨nd, rfl⟩⟩; refine ⟨_, rfl, ?_⟩))
    go_loopg [5, 6] k (fun kq v5 v6 w' => ∃ (x5_1 : Int) (x6_1 : Int), v5 = .int .i64 x5_1 ∧ v6 = .int .i64 x6_1 ∧ Aside0 (impl_NumberOf.l0 kq a0 l1 x5_1 x6_1 = some r) ∧ Aside0 (kq ≤ k) ∧ Drawn0 w w')
    case atStart => exact ⟨(0), (wrap64 ((l1.length : Int) - 1)), (by first | rfl | (simp; done) | (simp [*]; done)), (by first | rfl | (simp; done) | (simp [*]; done)), H', ⟨Nat.le_refl _⟩, by repeat (first | exact Drawn0.refl _ | apply Drawn0.step)⟩
    case round =>
      clear H'
      try clear c1
      try clear p2
      try clear c4
      obtain ⟨x5_1, x6_1, rfl, rfl, HA, HK1, ⟨m1, rfl⟩⟩ := hrel
      cases gk with
      | zero => exact absurd HA.out (by simp [impl_NumberOf.l0])
      | succ k1 =>
        have H := HA.out
        clear HA
        simp only [impl_NumberOf.l0] at H
        by_cases c5 : x6_1 ≥ 0
        · rw [if_pos c5] at H
          have c5b0 : decide (0 ≤ x6_1) = true := decide_eq_true c5
          clear c5
          by_cases c6 : 0 ≤ x6_1
          · rw [if_pos c6] at H
            have c6b0 : decide (0 ≤ x6_1) = true := decide_eq_true c6
            clear c6
            by_cases c7 : x6_1 < (l1.length : Int)
            · rw [if_pos c7] at H
              have c7b0 : decide (x6_1 < (l1.length : Int)) = true := decide_eq_true c7
              clear c7
              have H' := Aside0.mk H
              clear H
              have p217 : 0 ≤ (x6_1 : Int) := of_decide_eq_true (by first | (with_reducible assumption) | assumption)
              have q217 : x6_1 < (l1.length : Int) := of_decide_eq_true (by first | (with_reducible assumption) | assumption)
              obtain ⟨ad217, e217, hx217_0⟩ := Kd.at_int HR1.out x6_1 p217 q217
              cases e217
              replace p217 := eq_true p217
              replace q217 := eq_true q217
              go_wp2
              go_roundg k1
              case measure => have := HK1.out; omega
              case rel => exact ⟨(wrap64 ((wrap64 (x5_1 * a0)) + (rd l1 x6_1))), (wrap64 (x6_1 - 1)), (by first | rfl | (simp; done) | (simp [*]; done)), (by first | rfl | (simp; done) | (simp [*]; done)), H', ⟨by have := HK1.out; omega⟩, by repeat (first | exact Drawn0.refl _ | apply Drawn0.step)⟩
            · rw [if_neg c7] at H
              exact absurd H (by simp)
          · rw [if_neg c6] at H
            exact absurd H (by simp)
        · rw [if_neg c5] at H
          have c5b0 : decide (0 ≤ x6_1) = false := decide_eq_false c5
          clear c5
          obtain rfl := Option.some.inj H
          go_wp2
          go_ret
          exact ⟨by first | rfl | (simp; done) | (simp [*]; done), by repeat (first | exact Drawn0.refl _ | apply Drawn0.step)⟩
  · replace c4 := Bool.eq_false_iff.mpr c4
    subst c4
    have H1 : (some (-1)) = some r := by rw [if_neg (show ¬ (false = true) by decide)] at H; exact H
    clear H
    have H := H1
    clear H1
    obtain rfl := Option.some.inj H
    go_enter Try.func74, Try.ntmps74
    go_wp2_with (first | ((with_reducible refine gate_callee (f := 67) rfl ?_); refine goesL_ (some 9) rfl rfl Try.func67 (by kernel_rfl) rfl #[.int .i64 a0, .slice A1 l1.length c1] rfl (by (try simp only [List.map_toArray, List.map_cons, List.map_nil]); first | done | rfl | (simp only [List.length_drop, List.length_take]; rfl)) ?_; (with_reducible refine (impl_StateOk.calls k a0 _ _ l1 false _ ?side1 ?side2 A3.out).mono ?_); (case side1 => repeat (first | exact HR1.out | (with_reducible refine Kd.C_alloc ?_ _) | (with_reducible refine Kd.C_drewN ?_ _) | (with_reducible refine Kd.C_drew ?_))); (case side2 => exact HC1.out); rintro e w' ⟨rfl, ⟨nd, rfl⟩⟩; refine ⟨_, rfl, ?_⟩))
    go_ret
    exact ⟨by first | rfl | (simp; done) | (simp [*]; done), by repeat (first | exact Drawn0.refl _ | apply Drawn0.step)⟩

/-! ### impl_EndsAt: function 40 -/
/-- The numbers seen, as a map to true. -/
def impl_EndsAt.hitD {H : Type} : List Int → DataW H
  | [] => .map []
  | y :: l => (impl_EndsAt.hitD l).put (.int .i64 y) (.lit (.bool true))
theorem impl_EndsAt.hitD_map {H : Type} : ∀ l : List Int, Maps.IsMap (impl_EndsAt.hitD (H := H) l)
  | [] => ⟨[], rfl⟩
  | _ :: l => (impl_EndsAt.hitD_map l).put _ _
def impl_EndsAt.hitB : List Int → Int → Bool
  | [], _ => false
  | y :: l, x => if x = y then true else impl_EndsAt.hitB l x
theorem impl_EndsAt.hitD_at {H : Type} (x : Int) : ∀ l : List Int, (impl_EndsAt.hitD (H := H) l).atKey (.int .i64 x) (.lit (.bool false)) = .lit (.bool (impl_EndsAt.hitB l x))
  | [] => rfl
  | y :: l => by
    unfold impl_EndsAt.hitD impl_EndsAt.hitB
    by_cases e : x = y
    · subst e; rw [if_pos rfl, Maps.atKey_put_same (impl_EndsAt.hitD_map l) (by simp [WideAt.IsKeyLit])]
    · rw [if_neg e, Maps.atKey_put_other (by intro h; injection h with _ h; exact e (by omega)), impl_EndsAt.hitD_at x l]
theorem impl_EndsAt.plainElem_bool_inv {H : Type} {P : Program} {e : TypeId} (he : P.underlying e = some .bool) {v : Value} {z : DataW H × List MemPlace} (h : plainElem P e v = some z) : ∃ x, v = .bool x ∧ z = (.lit (.bool x), []) := by
  unfold plainElem at h
  rw [he] at h
  cases v <;> simp at h
  exact ⟨_, rfl, h.symm⟩
theorem impl_EndsAt.wpList_lookup_own_bool {H : Type} {P : Program} (w : World) {ops : Array Oper} {rest : List Oper} {o : Oper} {a : Act} {Q : Exit → Act → World → Prop}
    (hg : o.guard = none) (m x : Operand) (t : TypeId) (hop : o.op = Op.lookup t m x false)
    (k e : TypeId) (K : Maps.Keyed P k) (ht : P.underlying t = some (.map k e)) (he : P.underlying e = some .bool) (hz : (zeroValue e).run P w = .ok (.bool false) w) (b n : Nat) (D : DataW H)
    (hm : a.eval m = .map (some b)) (hown : w.ownsMap P k (plainElem P e) b n D) (key : Value) (kl : Lit) (hx : a.eval x = key) (hkey : keyOf P k key = some kl) (y : Bool) (hat : D.atKey kl (.lit (.bool false)) = .lit (.bool y))
    (hK : wpList P ops Q rest (a.put o.dst (.bool y)) w) :
    wpList P ops Q (o :: rest) a w := by
  refine wpList_plain hg fun K' hK' => ?_
  obtain ⟨v, ps, hrun, hv⟩ := hown.lookup K ht hz (plainElem_bool he false) hkey
  obtain ⟨c, rfl, hc⟩ := impl_EndsAt.plainElem_bool_inv he hv
  simp only [Prod.mk.injEq] at hc
  have hcy : c = y := by
    have h1 := hc.1
    rw [hat] at h1
    injection h1 with h1
    injection h1 with h1
    exact h1.symm
  subst hcy
  unfold Oper.wp
  simp [execOp, hop, hm, hx, hrun, Result.andThen]
  exact hK' _ _ hK
theorem impl_EndsAt.C_mapped {w w1 : World} {A : Option Addr} {n g : Nat} {xs : List Int} (h : Kd.C (Kd.int .i64) w A n xs) (hg : w.grownBy w1 (some g)) (hm : ∃ es c, w.heap[g]? = some (.map es c)) : Kd.C (Kd.int .i64) w1 A n xs := by
  refine ⟨h.1, h.2.1, fun hn => ?_⟩
  obtain ⟨ad, e, hc⟩ := h.2.2 hn
  refine ⟨ad, e, fun j p hj => ?_⟩
  obtain ⟨c, hs, hr, hcell⟩ := hc j p hj
  refine ⟨c, hs, hr, fun i u hu => ?_⟩
  have h1 := hcell i u hu
  refine World.grownBy.cell hg h1 ?_
  intro e2
  obtain ⟨es, cl, hmm⟩ := hm
  unfold World.cell? at h1
  rw [Option.some.inj e2, hmm] at h1
  simp at h1
theorem impl_EndsAt.ownsMap_block {H : Type} {w : World} {P : Program} {k : TypeId} {R : Value → Option (DataW H × List MemPlace)} {b n : Nat} {D : DataW H} (h : w.ownsMap P k R b n D) : ∃ es c, w.heap[b]? = some (.map es c) := by
  obtain ⟨es, c, hb, _⟩ := h
  exact ⟨es, c, hb⟩
theorem impl_EndsAt.ownsMap_drewN {H : Type} {w : World} {P : Program} {k : TypeId} {R : Value → Option (DataW H × List MemPlace)} {b n m : Nat} {D : DataW H} (h : w.ownsMap P k R b n D) : (w.drewN m).ownsMap P k R b n D := h
theorem impl_EndsAt.ownsMap_below {H : Type} {w w1 : World} {P : Program} {k : TypeId} {R : Value → Option (DataW H × List MemPlace)} {b n : Nat} {D : DataW H} (h : w.ownsMap P k R b n D) (hb : Below w.heap.size w w1) : w1.ownsMap P k R b n D := by
  have hlt := h.lt
  obtain ⟨es, clock, hb', F, hs, hD⟩ := h
  exact ⟨es, clock, (hb.block b hlt).trans hb', F, hs, hD⟩
theorem impl_EndsAt.law_int : Maps.Keyed Try.prog 3 := Maps.int_keyed Try.underlying3
theorem impl_EndsAt.zero_bool (w : World) : (zeroValue 4).run Try.prog w = .ok (.bool false) w := by kernel_rfl
def impl_EndsAt.l0 : Nat → List Int → Int → List Int → List Int → Option Int
  | 0, _, _, _, _ => none
  | k + 1, x0, x1, x2, x7 => (impl_NumberOf.f k x1 x2).bind fun t => if t = 0 then some (x7.length : Int) else if (Lit.int .i64 t).wf = true then (if impl_EndsAt.hitB x7 t = true then some (-1)
      else if x7.length < 1000000 then (impl_needStep.f k x0 x1 [] x2).bind fun y => impl_EndsAt.l0 k x0 x1 y (t :: x7) else none) else none
def impl_EndsAt.f (k : Nat) (l0 : List Int) (a1 : Int) (l2 : List Int) : Option Int := (impl_asked.f k l0 a1 l2).bind fun t => (if t = true then (impl_EndsAt.l0 k l0 a1 l2 []) else (some (-1)))
theorem impl_EndsAt.mono_l : ∀ k, (∀ y0 y1 y2 y3, LeO (impl_EndsAt.l0 k y0 y1 y2 y3) (impl_EndsAt.l0 (k + 1) y0 y1 y2 y3))
  | 0 => fun _ _ _ _ r h => by simp [impl_EndsAt.l0] at h
  | k + 1 => by
    have ih0 := impl_EndsAt.mono_l k
    intro y0 y1 y2 y3
    unfold impl_EndsAt.l0
    exact LeO.bind (impl_NumberOf.mono _ _ _) (fun t => LeO.ite (LeO.refl _) (LeO.ite (LeO.ite (LeO.refl _) (LeO.ite (LeO.bind (impl_needStep.mono _ _ _ _ _) (fun _ => ih0 _ _ _ _)) (LeO.none _))) (LeO.none _)))
theorem impl_EndsAt.mono : ∀ a0 a1 a2 k, LeO (impl_EndsAt.f k a0 a1 a2) (impl_EndsAt.f (k + 1) a0 a1 a2) := by
  intro a0 a1 a2 k
  have ih0 := impl_EndsAt.mono_l k
  unfold impl_EndsAt.f
  exact LeO.bind (impl_asked.mono _ _ _ _) (fun _ => LeO.ite (ih0 _ _ _ _) (LeO.refl _))
set_option maxHeartbeats 8000000 in
set_option maxRecDepth 100000 in
theorem impl_EndsAt.calls (k : Nat) (A0 : Option Addr) (c0 : Nat) (l0 : List Int) (a1 : Int) (A2 : Option Addr) (c2 : Nat) (l2 : List Int) (r : Int) (w : World) (hr0 : Kd.C (Kd.int .i64) w A0 l0.length l0) (hc0 : l0.length ≤ c0) (hr2 : Kd.C (Kd.int .i64) w A2 l2.length l2) (hc2 : l2.length ≤ c2) (h : impl_EndsAt.f k l0 a1 l2 = some r) :
    Calls Try.prog 40 #[.slice A0 l0.length c0, .int .i64 a1, .slice A2 l2.length c2] w fun e w' => e = .returned (.int .i64 r) ∧ Below w.heap.size w w' := by
  have hmm := @run_makeMap Try.prog
  have HR0 := Aside0.mk hr0
  have HC0 := Aside0.mk hc0
  clear hr0 hc0
  have HR2 := Aside0.mk hr2
  have HC2 := Aside0.mk hc2
  clear hr2 hc2
  unfold impl_EndsAt.f at h
  replace h := Option.bind_eq_some_iff.mp h
  obtain ⟨t, hA, h⟩ := h
  have HA := Aside0.mk hA
  clear hA
  cases t with
  | false =>
    obtain rfl : (-1 : Int) = r := by simpa using h
    clear h
    go_enter Try.func40, Try.ntmps40
    go_wp2_with (first | (go_at_call 61; (with_reducible refine (impl_asked.calls k A0 c0 l0 a1 A2 c2 l2 false _ HR0.out HC0.out HR2.out HC2.out HA.out).mono ?_); rintro e w2 ⟨rfl, ⟨nd, rfl⟩⟩))
    go_ret
    exact ⟨rfl, pw_below_drewN (Below.refl _ _) nd⟩
  | true =>
    have H' := Aside0.mk (show impl_EndsAt.l0 k l0 a1 l2 [] = some r from by simpa using h)
    clear h
    go_enter Try.func40, Try.ntmps40
    go_wp2_with (first | (go_at_call 61; (with_reducible refine (impl_asked.calls k A0 c0 l0 a1 A2 c2 l2 true _ HR0.out HC0.out HR2.out HC2.out HA.out).mono ?_); rintro e w2 ⟨rfl, ⟨nd, rfl⟩⟩))
    have HB1 := Aside0.mk (pw_below_drewN (Below.refl w.heap.size w) nd)
    go_loopg [2, 8] k (fun kq v2 v8 w' => ∃ (st seen : List Int) (A : Option Addr) (c : Nat), v2 = .slice A st.length c ∧ v8 = .int .i64 (seen.length : Int) ∧ Aside0 (impl_EndsAt.l0 kq l0 a1 st seen = some r) ∧ Aside0 (kq ≤ k) ∧ Aside0 (Kd.C (Kd.int .i64) w' A st.length st) ∧ Aside0 (st.length ≤ c) ∧ Aside0 (w'.ownsMap Try.prog 3 (plainElem (H := Unit) Try.prog 4) w.heap.size seen.length (impl_EndsAt.hitD seen)) ∧ Aside0 (Below w.heap.size w w'))
    case atStart => exact ⟨l2, [], A2, c2, rfl, rfl, H', ⟨Nat.le_refl _⟩, ⟨Kd.C_alloc (Kd.C_drewN HR2.out nd) _⟩, HC2, ⟨World.ownsMap_made (w.drewN nd) _ _ _⟩, ⟨HB1.out.alloc (Nat.le_refl _) _⟩⟩
    case round =>
      clear H'
      obtain ⟨st, seen, A, c, rfl, rfl, HA2, HK, HS, HC, HM, HB⟩ := hrel
      cases gk with
      | zero => exact absurd HA2.out (by simp [impl_EndsAt.l0])
      | succ k2 =>
        have H := HA2.out
        clear HA2
        simp only [impl_EndsAt.l0] at H
        replace H := Option.bind_eq_some_iff.mp H
        obtain ⟨t, hN, H⟩ := H
        have HN := Aside0.mk hN
        clear hN
        by_cases ht : t = 0
        · subst ht
          obtain rfl : (seen.length : Int) = r := by simpa using H
          clear H
          go_wp2_with (first | (go_at_call 74; (with_reducible refine (impl_NumberOf.calls k2 a1 A c st 0 _ HS.out HC.out HN.out).mono ?_); rintro e w2 ⟨rfl, ⟨nd2, rfl⟩⟩))
          go_ret
          exact ⟨rfl, pw_below_drewN HB.out nd2⟩
        · rw [if_neg ht] at H
          by_cases hwf : (Lit.int .i64 t).wf = true
          · rw [if_pos hwf] at H
            have HKEY := Aside0.mk (show keyOf Try.prog 3 (.int .i64 t) = some (.int .i64 t) from Maps.keyOf_int_mk Try.underlying3 hwf)
            clear hwf
            have HAT := Aside0.mk (impl_EndsAt.hitD_at (H := Unit) t seen)
            have htb : (t == 0) = false := beq_eq_false_iff_ne.2 ht
            by_cases hi : impl_EndsAt.hitB seen t = true
            · rw [if_pos hi] at H
              obtain rfl : (-1 : Int) = r := by simpa using H
              clear H
              rw [hi] at HAT
              clear hi
              go_wp2_with (first | (go_at_call 74; (with_reducible refine (impl_NumberOf.calls k2 a1 A c st t _ HS.out HC.out HN.out).mono ?_); rintro e w2 ⟨rfl, ⟨nd2, rfl⟩⟩) | (at_lookup; refine impl_EndsAt.wpList_lookup_own_bool _ rfl _ _ 64 rfl 3 4 impl_EndsAt.law_int Try.underlying64 Try.underlying4 (impl_EndsAt.zero_bool _) w.heap.size seen.length (impl_EndsAt.hitD seen) rfl (impl_EndsAt.ownsMap_drewN HM.out) _ _ rfl HKEY.out true HAT.out ?_))
              go_ret
              exact ⟨rfl, pw_below_drewN HB.out nd2⟩
            · rw [if_neg hi] at H
              replace hi := Bool.eq_false_iff.mpr hi
              rw [hi] at HAT
              clear hi
              by_cases hsz : seen.length < 1000000
              · rw [if_pos hsz] at H
                replace H := Option.bind_eq_some_iff.mp H
                obtain ⟨y, hY, H⟩ := H
                have HY := Aside0.mk hY
                clear hY
                have H' := Aside0.mk H
                clear H
                go_wp2_with (first | (go_at_call 74; (with_reducible refine (impl_NumberOf.calls k2 a1 A c st t _ HS.out HC.out HN.out).mono ?_); rintro e w2 ⟨rfl, ⟨nd2, rfl⟩⟩) | (at_lookup; refine impl_EndsAt.wpList_lookup_own_bool _ rfl _ _ 64 rfl 3 4 impl_EndsAt.law_int Try.underlying64 Try.underlying4 (impl_EndsAt.zero_bool _) w.heap.size seen.length (impl_EndsAt.hitD seen) rfl (impl_EndsAt.ownsMap_drewN HM.out) _ _ rfl HKEY.out false HAT.out ?_) | (at_mapUpdate; refine wpList_mapUpdate_own _ rfl _ _ _ 64 rfl 3 4 impl_EndsAt.law_int Try.underlying64 _ w.heap.size seen.length (impl_EndsAt.hitD seen) rfl (impl_EndsAt.ownsMap_drewN HM.out) (by unfold maxLen; omega) _ _ _ rfl rfl HKEY.out _ [] (plainElem_bool Try.underlying4 true) ?_; intro w3 hown3 hgrow3; have HO3 := Aside0.mk hown3; have HG3 := Aside0.mk hgrow3; clear hown3 hgrow3; have HB2 := Aside0.mk (pw_below_drewN HB.out nd2); have HR03 := Aside0.mk (impl_EndsAt.C_mapped (Kd.C_below HR0.out HB2.out) HG3.out (impl_EndsAt.ownsMap_block (impl_EndsAt.ownsMap_drewN HM.out))); have HS3 := Aside0.mk (impl_EndsAt.C_mapped (Kd.C_drewN HS.out nd2) HG3.out (impl_EndsAt.ownsMap_block (impl_EndsAt.ownsMap_drewN HM.out))); have HB3 := Aside0.mk (HB2.out.grown HG3.out HB2.out.size (fun j hj => by cases hj; exact Nat.le_refl _)); clear HG3 HB2) | (go_at_call 73; (with_reducible refine (impl_needStep.calls k2 A0 c0 l0 a1 none 0 [] A c st y _ HR03.out HC0.out (Kd.C_nil _ _) (Nat.le_refl _) HS3.out HC.out HY.out).mono ?_); rintro e w4 ⟨v0, rfl, ho4, hb4⟩; obtain ⟨A4, c4, rfl, hc4, hC4⟩ := Kd.R_reads ho4; have HC4 := Aside0.mk hc4; have HS4 := Aside0.mk hC4; have HM4 := Aside0.mk (impl_EndsAt.ownsMap_below HO3.out hb4); have HB4 := Aside0.mk (below_step HB3.out hb4); clear ho4 hb4 hc4 hC4))
                go_roundg k2
                case measure => omega
                case rel => exact ⟨y, t :: seen, A4, c4, rfl, by first | rfl | (simp; done), H', ⟨by have := HK.out; omega⟩, HS4, HC4, HM4, HB4⟩
              · rw [if_neg hsz] at H
                exact absurd H (by simp)
          · rw [if_neg hwf] at H
            exact absurd H (by simp)

/-! ### impl_setOk: function 77 -/
def impl_setOk.f (k : Nat) (l0 : List Int) (a1 : Int) : Option (Bool) := (impl_NetOk.f k l0).bind fun t218 => (if t218 = true then (if a1 ≥ 0 then (some (decide (a1 < (shl .i64 1 (l0.length : Int))))) else (some false)) else (some false))
theorem impl_setOk.mono : ∀ a0 a1 k, LeO (impl_setOk.f k a0 a1) (impl_setOk.f (k + 1) a0 a1) := by
  intro a0 a1 k
  unfold impl_setOk.f
  repeat' first
      | (with_reducible exact impl_NetOk.mono _ _)
      | (with_reducible exact LeO.refl _)
      | (with_reducible exact LeO.none _)
      | (with_reducible refine LeO.ite ?_ ?_)
      | (with_reducible refine LeO.bind ?_ (fun _ => ?_))
      | exact impl_NetOk.mono _ _
      | exact LeO.none _
      | refine LeO.ite ?_ ?_
      | refine LeO.bind ?_ (fun _ => ?_)
set_option maxHeartbeats 8000000 in
set_option maxRecDepth 100000 in
theorem impl_setOk.calls (k : Nat) (A0 : Option Addr) (c0 : Nat) (l0 : List Int) (a1 : Int) (r : Bool) (w : World) (hr0 : Kd.C (Kd.int .i64) w A0 l0.length l0) (hc0 : l0.length ≤ c0) (h : impl_setOk.f k l0 a1 = some r) :
    Calls Try.prog 77 #[.slice A0 l0.length c0, .int .i64 a1] w fun e w' => e = .returned (.bool r) ∧ Drawn0 w w' := by
  have HR0 := Aside0.mk hr0
  have HC0 := Aside0.mk hc0
  clear hr0 hc0
  have H : ((impl_NetOk.f k l0).bind fun t218 => (if t218 = true then (if a1 ≥ 0 then (some (decide (a1 < (shl .i64 1 (l0.length : Int))))) else (some false)) else (some false))) = some r := h
  clear h
  replace H := Option.bind_eq_some_iff.mp H
  obtain ⟨t218, A30, H⟩ := H
  replace H : (if t218 = true then (if a1 ≥ 0 then (some (decide (a1 < (shl .i64 1 (l0.length : Int))))) else (some false)) else (some false)) = some r := H
  have A3 := Aside0.mk A30
  clear A30
  by_cases c4 : t218 = true
  · subst c4
    have H1 : (if a1 ≥ 0 then (some (decide (a1 < (shl .i64 1 (l0.length : Int))))) else (some false)) = some r := by rw [if_pos rfl] at H; exact H
    clear H
    have H := H1
    clear H1
    by_cases c5 : a1 ≥ 0
    · rw [if_pos c5] at H
      have c5b0 : decide (0 ≤ a1) = true := decide_eq_true c5
      clear c5
      obtain ⟨ji6, hji6⟩ : ∃ j_ : Int, (shl .i64 1 (l0.length : Int)) = j_ := ⟨_, rfl⟩
      replace H : (some (decide (a1 < (ji6)))) = some r := by first | (rw [hji6] at H; exact H) | (simp only [hji6] at H ⊢; exact H)
      (try rw [hji6] at A3)
      have hji6_ : (IntKind.i64.wrap (1 * 2 ^ min (l0.length : Int).toNat 64)) = ji6 := hji6
      have hji6z : (l0.length : Int) ≤ 64 → (IntKind.i64.wrap (1 * 2 ^ (l0.length : Int).toNat)) = ji6 := shl_small hji6
      have hji6p : (IntKind.i64.wrap (1 * 2 ^ min l0.length 64)) = ji6 := hji6_
      have hji6q : (l0.length : Int) ≤ 64 → (IntKind.i64.wrap (1 * 2 ^ l0.length)) = ji6 := hji6z
      have hji6r : (IntKind.i64.wrap (2 ^ min l0.length 64)) = ji6 := by have h_ := hji6p; rw [Int.one_mul] at h_; exact h_
      have hji6s : (l0.length : Int) ≤ 64 → (IntKind.i64.wrap (2 ^ l0.length)) = ji6 := fun hle_ => by have h_ := hji6q hle_; rw [Int.one_mul] at h_; exact h_
      have hji6u : (IntKind.i64.wrap (2 ^ min (l0.length : Int).toNat 64)) = ji6 := by have h_ := hji6_; rw [Int.one_mul] at h_; exact h_
      have hji6v : (l0.length : Int) ≤ 64 → (IntKind.i64.wrap (2 ^ (l0.length : Int).toNat)) = ji6 := fun hle_ => by have h_ := hji6z hle_; rw [Int.one_mul] at h_; exact h_
      have hji6y : (wrap64 (1 * 2 ^ min (l0.length : Int).toNat 64)) = ji6 := (i64_w _).symm.trans hji6_
      have hji6x : (l0.length : Int) ≤ 64 → (wrap64 (1 * 2 ^ (l0.length : Int).toNat)) = ji6 := fun h_ => (i64_w _).symm.trans (hji6z h_)
      obtain rfl := Option.some.inj H
      go_enter Try.func77, Try.ntmps77
      go_wp2_with (first | ((with_reducible refine gate_callee (f := 56) rfl ?_); refine goesL_ (some 6) rfl rfl Try.func56 (by kernel_rfl) rfl #[.slice A0 l0.length c0] rfl (by (try simp only [List.map_toArray, List.map_cons, List.map_nil]); first | done | rfl | (simp only [List.length_drop, List.length_take]; rfl)) ?_; (with_reducible refine (impl_NetOk.calls k _ _ l0 true _ ?side1 ?side2 A3.out).mono ?_); (case side1 => repeat (first | exact HR0.out | (with_reducible refine Kd.C_alloc ?_ _) | (with_reducible refine Kd.C_drewN ?_ _) | (with_reducible refine Kd.C_drew ?_))); (case side2 => exact HC0.out); rintro e w' ⟨rfl, ⟨nd, rfl⟩⟩; refine ⟨_, rfl, ?_⟩))
      go_ret
      exact ⟨by first | rfl | (simp; done) | (simp only [← hji6] <;> (first | rfl | simp)) | (simp [*]; done), by repeat (first | exact Drawn0.refl _ | apply Drawn0.step)⟩
    · rw [if_neg c5] at H
      have c5b0 : decide (0 ≤ a1) = false := decide_eq_false c5
      clear c5
      obtain rfl := Option.some.inj H
      go_enter Try.func77, Try.ntmps77
      go_wp2_with (first | ((with_reducible refine gate_callee (f := 56) rfl ?_); refine goesL_ (some 6) rfl rfl Try.func56 (by kernel_rfl) rfl #[.slice A0 l0.length c0] rfl (by (try simp only [List.map_toArray, List.map_cons, List.map_nil]); first | done | rfl | (simp only [List.length_drop, List.length_take]; rfl)) ?_; (with_reducible refine (impl_NetOk.calls k _ _ l0 true _ ?side1 ?side2 A3.out).mono ?_); (case side1 => repeat (first | exact HR0.out | (with_reducible refine Kd.C_alloc ?_ _) | (with_reducible refine Kd.C_drewN ?_ _) | (with_reducible refine Kd.C_drew ?_))); (case side2 => exact HC0.out); rintro e w' ⟨rfl, ⟨nd, rfl⟩⟩; refine ⟨_, rfl, ?_⟩))
      go_ret
      exact ⟨by first | rfl | (simp; done) | (simp [*]; done), by repeat (first | exact Drawn0.refl _ | apply Drawn0.step)⟩
  · replace c4 := Bool.eq_false_iff.mpr c4
    subst c4
    have H1 : (some false) = some r := by rw [if_neg (show ¬ (false = true) by decide)] at H; exact H
    clear H
    have H := H1
    clear H1
    obtain rfl := Option.some.inj H
    go_enter Try.func77, Try.ntmps77
    go_wp2_with (first | ((with_reducible refine gate_callee (f := 56) rfl ?_); refine goesL_ (some 6) rfl rfl Try.func56 (by kernel_rfl) rfl #[.slice A0 l0.length c0] rfl (by (try simp only [List.map_toArray, List.map_cons, List.map_nil]); first | done | rfl | (simp only [List.length_drop, List.length_take]; rfl)) ?_; (with_reducible refine (impl_NetOk.calls k _ _ l0 false _ ?side1 ?side2 A3.out).mono ?_); (case side1 => repeat (first | exact HR0.out | (with_reducible refine Kd.C_alloc ?_ _) | (with_reducible refine Kd.C_drewN ?_ _) | (with_reducible refine Kd.C_drew ?_))); (case side2 => exact HC0.out); rintro e w' ⟨rfl, ⟨nd, rfl⟩⟩; refine ⟨_, rfl, ?_⟩))
    go_ret
    exact ⟨by first | rfl | (simp; done) | (simp [*]; done), by repeat (first | exact Drawn0.refl _ | apply Drawn0.step)⟩

end Go.Proofs.Ytbbafjmfdbjkaaa.PFnWaveEnd
