-- Written by a program of this session (the kit's print, changed).
import Derived.Test.YtokhnnhinafnfaaPFnExactTurnedRowx0
import Derived.Test.YtokhnnhinafnfaaPFnExactTurnedRowx4
namespace Go.Proofs.Ytokhnnhinafnfaa.PFnExactTurnedRow
open Go.RowKit Go.Proofs.YtokhnnhinafnfaaW.PrintWords Go.Proofs.YtokhnnhinafnfaaW.PrintLast Go.Proofs.YtokhnnhinafnfaaW.PrintMore
attribute [local go_sem] max2_int min2_int max_two min_two max_three min_three max_four min_four   -- for this text's walks alone
set_option linter.unusedVariables false
set_option linter.unusedSimpArgs false

/-! ### impl_turnStep: function 49 -/
mutual
def impl_turnStep.l0 : Nat → List Int → List Int → List Int → List Int → Int → Int → Option (List Int)
  | 0, _, _, _, _, _, _ => none
  | k + 1, x0, x1, x5, x12, x13, x14 => if x14 < x13 then (if 0 ≤ x14 then (if x14 < (x12.length : Int) then (impl_turnStep.l1 k x0 x1 x5 x14 (rd x12 x14) x12 x13 x14 x1 (x1.length : Int) 0) else (none)) else (none)) else (some x5)
def impl_turnStep.l1 : Nat → List Int → List Int → List Int → Int → Int → List Int → Int → Int → List Int → Int → Int → Option (List Int)
  | 0, _, _, _, _, _, _, _, _, _, _, _ => none
  | k + 1, x0, x1, x5, x6, x7, x12, x13, x14, x19, x20, x21 => if x21 < x20 then (if 0 ≤ x21 then (if x21 < (x19.length : Int) then (if 0 ≤ x6 then (if x6 < (x0.length : Int) then (if (Go.bits .and .i64 (shr .i64 (rd x0 x6) x21) 1) = 1 then (if (rd x19 x21) = (Int.tmod (wrap64 (x7 + 1)) 3) then (if x6 < (x5.length : Int) then (impl_turnStep.l1 k x0 x1 (x5.set (x6 : Int).toNat (rd x19 x21)) x6 x7 x12 x13 x14 x19 x20 (wrap64 (x21 + 1))) else (none)) else (impl_turnStep.l1 k x0 x1 x5 x6 x7 x12 x13 x14 x19 x20 (wrap64 (x21 + 1)))) else (impl_turnStep.l1 k x0 x1 x5 x6 x7 x12 x13 x14 x19 x20 (wrap64 (x21 + 1)))) else (none)) else (none)) else (none)) else (none)) else (impl_turnStep.l0 k x0 x1 x5 x12 x13 (wrap64 (x14 + 1)))
end
def impl_turnStep.f (k : Nat) (l0 : List Int) (l1 : List Int) : Option (List Int) := (slices_Clone_int_int.f l1).bind fun t164 => (impl_turnStep.l0 k l0 l1 t164 l1 (l1.length : Int) 0)
theorem impl_turnStep.mono_l : ∀ k, (∀ y0 y1 y2 y3 y4 y5, LeO (impl_turnStep.l0 k y0 y1 y2 y3 y4 y5) (impl_turnStep.l0 (k + 1) y0 y1 y2 y3 y4 y5)) ∧ (∀ y0 y1 y2 y3 y4 y5 y6 y7 y8 y9 y10, LeO (impl_turnStep.l1 k y0 y1 y2 y3 y4 y5 y6 y7 y8 y9 y10) (impl_turnStep.l1 (k + 1) y0 y1 y2 y3 y4 y5 y6 y7 y8 y9 y10))
  | 0 => ⟨fun _ _ _ _ _ _ r h => by simp [impl_turnStep.l0] at h, fun _ _ _ _ _ _ _ _ _ _ _ r h => by simp [impl_turnStep.l1] at h⟩
  | k + 1 => by
    obtain ⟨ih0, ih1⟩ := impl_turnStep.mono_l k
    refine ⟨?_, ?_⟩
    · intro y0 y1 y2 y3 y4 y5
      unfold impl_turnStep.l0
      repeat' first
      | (with_reducible exact ih0 _ _ _ _ _ _)
      | (with_reducible exact ih1 _ _ _ _ _ _ _ _ _ _ _)
      | (with_reducible exact LeO.refl _)
      | (with_reducible exact LeO.none _)
      | (with_reducible refine LeO.ite ?_ ?_)
      | (with_reducible refine LeO.bind ?_ (fun _ => ?_))
      | exact ih0 _ _ _ _ _ _
      | exact ih1 _ _ _ _ _ _ _ _ _ _ _
      | exact LeO.none _
      | refine LeO.ite ?_ ?_
      | refine LeO.bind ?_ (fun _ => ?_)
    · intro y0 y1 y2 y3 y4 y5 y6 y7 y8 y9 y10
      unfold impl_turnStep.l1
      repeat' first
      | (with_reducible exact ih0 _ _ _ _ _ _)
      | (with_reducible exact ih1 _ _ _ _ _ _ _ _ _ _ _)
      | (with_reducible exact LeO.refl _)
      | (with_reducible exact LeO.none _)
      | (with_reducible refine LeO.ite ?_ ?_)
      | (with_reducible refine LeO.bind ?_ (fun _ => ?_))
      | exact ih0 _ _ _ _ _ _
      | exact ih1 _ _ _ _ _ _ _ _ _ _ _
      | exact LeO.none _
      | refine LeO.ite ?_ ?_
      | refine LeO.bind ?_ (fun _ => ?_)
theorem impl_turnStep.mono : ∀ a0 a1 k, LeO (impl_turnStep.f k a0 a1) (impl_turnStep.f (k + 1) a0 a1) := by
  intro a0 a1 k
  obtain ⟨ih0, ih1⟩ := impl_turnStep.mono_l k
  unfold impl_turnStep.f
  repeat' first
      | (with_reducible exact ih0 _ _ _ _ _ _)
      | (with_reducible exact ih1 _ _ _ _ _ _ _ _ _ _ _)
      | (with_reducible exact LeO.refl _)
      | (with_reducible exact LeO.none _)
      | (with_reducible refine LeO.ite ?_ ?_)
      | (with_reducible refine LeO.bind ?_ (fun _ => ?_))
      | exact ih0 _ _ _ _ _ _
      | exact ih1 _ _ _ _ _ _ _ _ _ _ _
      | exact LeO.none _
      | refine LeO.ite ?_ ?_
      | refine LeO.bind ?_ (fun _ => ?_)
set_option maxHeartbeats 8000000 in
set_option maxRecDepth 100000 in
theorem impl_turnStep.calls (k : Nat) (A0 : Option Addr) (c0 : Nat) (l0 : List Int) (A1 : Option Addr) (c1 : Nat) (l1 : List Int) (r : List Int) (w : World) (hr0 : Kd.C (Kd.int .i64) w A0 l0.length l0) (hc0 : l0.length ≤ c0) (hr1 : Kd.C (Kd.int .i64) w A1 l1.length l1) (hc1 : l1.length ≤ c1) (h : impl_turnStep.f k l0 l1 = some r) :
    Calls Try.prog 49 #[.slice A0 l0.length c0, .slice A1 l1.length c1] w fun e w' => ∃ v0_ : Value, e = .returned (v0_) ∧ Kd.R (Kd.int .i64) 3 w' w.heap.size (fun _ => True) v0_ r ∧ Below w.heap.size w w' := by
  have HR0 := Aside0.mk hr0
  have HC0 := Aside0.mk hc0
  clear hr0 hc0
  have HR1 := Aside0.mk hr1
  have HC1 := Aside0.mk hc1
  clear hr1 hc1
  have HB := Aside0.mk (Below.refl w.heap.size w)
  have H : ((slices_Clone_int_int.f l1).bind fun t164 => (impl_turnStep.l0 k l0 l1 t164 l1 (l1.length : Int) 0)) = some r := h
  clear h
  replace H := Option.bind_eq_some_iff.mp H
  obtain ⟨t164, A30, H⟩ := H
  replace H : (impl_turnStep.l0 k l0 l1 t164 l1 (l1.length : Int) 0) = some r := H
  have A3 := Aside0.mk A30
  clear A30
  have H' := Aside0.mk H
  clear H
  go_enter Try.func49, Try.ntmps49
  go_wp2_with (first | ((with_reducible refine gate_callee (f := 52) rfl ?_); refine goesL_ (some 11) rfl rfl Try.func52 (by kernel_rfl) rfl #[.slice A1 l1.length c1] rfl (by (try simp only [List.map_toArray, List.map_cons, List.map_nil]); first | done | rfl | (simp only [List.length_drop, List.length_take]; rfl)) ?_; (with_reducible refine (slices_Clone_int_int.calls _ _ l1 t164 _ ?side1 ?side2 A3.out).mono ?_); (case side1 => repeat (first | exact HR1.out | (with_reducible refine Kd.C_alloc ?_ _) | (with_reducible refine Kd.C_drewN ?_ _) | (with_reducible refine Kd.C_drew ?_))); (case side2 => exact HC1.out); rintro e w4 ⟨v165, rfl, ho0, hb⟩; refine ⟨_, rfl, ?_⟩; have n0_ := Aside0.mk (Kd.R_lower ho0 (below_size (by repeat (first | (with_reducible first | exact HB.out | apply below_alloc | apply pw_below_drewN | apply below_drew1) | exact HB.out)))); have n1_ := Aside0.mk (below_step (by repeat (first | (with_reducible first | exact HB.out | apply below_alloc | apply pw_below_drewN | apply below_drew1) | exact HB.out)) hb); clear HB; have HO166 := n0_; have HB := n1_; clear n0_ n1_; (try clear hb); (try clear hb2); (try clear hk); (try clear hi); (try clear ho0)))
  go_loopg [14] k (fun kq v14 w' => ∃ (x5_1 : List Int) (x14_1 : Int), v14 = .int .i64 x14_1 ∧ Aside0 (impl_turnStep.l0 kq l0 l1 x5_1 l1 (l1.length : Int) x14_1 = some r) ∧ Aside0 (kq ≤ k) ∧ Aside0 (Kd.R (Kd.int .i64) 3 w' w.heap.size (fun _ => True) v165 x5_1) ∧ Aside0 (Below w.heap.size w w'))
  case atStart => exact ⟨(t164), (0), (by first | rfl | (simp; done) | (simp [*]; done)), H', ⟨Nat.le_refl _⟩, ⟨by (with_reducible repeat (first | apply Kd.R_alloc | apply Kd.R_drewN | apply Kd.R_drew)); exact HO166.out⟩, ⟨by repeat (first | (with_reducible first | exact HB.out | apply below_alloc | apply pw_below_drewN | apply below_drew1) | exact HB.out)⟩⟩
  case round =>
    clear H'
    try clear c1
    try clear p2
    try clear c4
    obtain ⟨x5_1, x14_1, rfl, HA, HK1, HO_5, HB⟩ := hrel
    cases gk with
    | zero => exact absurd HA.out (by simp [impl_turnStep.l0])
    | succ k1 =>
      have H := HA.out
      clear HA
      simp only [impl_turnStep.l0] at H
      by_cases c5 : x14_1 < (l1.length : Int)
      · rw [if_pos c5] at H
        have c5b0 : decide (x14_1 < (l1.length : Int)) = true := decide_eq_true c5
        clear c5
        by_cases c6 : 0 ≤ x14_1
        · rw [if_pos c6] at H
          have c6b0 : decide (0 ≤ x14_1) = true := decide_eq_true c6
          clear c6
          by_cases c7 : x14_1 < (l1.length : Int)
          · rw [if_pos c7] at H
            have c7b0 : decide (x14_1 < (l1.length : Int)) = true := decide_eq_true c7
            clear c7
            have H' := Aside0.mk H
            clear H
            have p167 : 0 ≤ (x14_1 : Int) := of_decide_eq_true (by first | (with_reducible assumption) | assumption)
            have q167 : x14_1 < (l1.length : Int) := of_decide_eq_true (by first | (with_reducible assumption) | assumption)
            obtain ⟨ad167, e167, hx167_0⟩ := Kd.at_int HR1.out x14_1 p167 q167
            cases e167
            replace hx167_0 := (HB.out.cell (World.block_lt_of_cell? w _ hx167_0)).trans hx167_0
            replace p167 := eq_true p167
            replace q167 := eq_true q167
            go_wp2
            go_loopg [21] k1 (fun kq v21 w' => ∃ (x5_2 : List Int) (x21_2 : Int), v21 = .int .i64 x21_2 ∧ Aside0 (impl_turnStep.l1 kq l0 l1 x5_2 x14_1 (rd l1 x14_1) l1 (l1.length : Int) x14_1 l1 (l1.length : Int) x21_2 = some r) ∧ Aside0 (kq ≤ k1) ∧ Aside0 (Kd.R (Kd.int .i64) 3 w' w.heap.size (fun _ => True) v165 x5_2) ∧ Aside0 (Below w.heap.size w w'))
            case atStart => exact ⟨(x5_1), (0), (by first | rfl | (simp; done) | (simp [*]; done)), H', ⟨Nat.le_refl _⟩, ⟨by (with_reducible repeat (first | apply Kd.R_alloc | apply Kd.R_drewN | apply Kd.R_drew)); exact HO_5.out⟩, ⟨by repeat (first | (with_reducible first | exact HB.out | apply below_alloc | apply pw_below_drewN | apply below_drew1) | exact HB.out)⟩⟩
            case round =>
              clear H'
              try clear c1
              try clear p1
              try clear q1
              try clear hx1
              try clear p2
              try clear c4
              try clear c5
              try clear c5b0
              try clear c6
              try clear c6b0
              try clear c7
              try clear c7b0
              try clear hx167_0
              try clear p167
              try clear p2
              try clear q167
              obtain ⟨x5_2, x21_2, rfl, HA, HK2, HO_5, HB⟩ := hrel
              cases gk with
              | zero => exact absurd HA.out (by simp [impl_turnStep.l1])
              | succ k2 =>
                have H := HA.out
                clear HA
                simp only [impl_turnStep.l1] at H
                by_cases c8 : x21_2 < (l1.length : Int)
                · rw [if_pos c8] at H
                  have c8b0 : decide (x21_2 < (l1.length : Int)) = true := decide_eq_true c8
                  clear c8
                  by_cases c9 : 0 ≤ x21_2
                  · rw [if_pos c9] at H
                    have c9b0 : decide (0 ≤ x21_2) = true := decide_eq_true c9
                    clear c9
                    by_cases c10 : x21_2 < (l1.length : Int)
                    · rw [if_pos c10] at H
                      have c10b0 : decide (x21_2 < (l1.length : Int)) = true := decide_eq_true c10
                      clear c10
                      by_cases c11 : 0 ≤ x14_1
                      · rw [if_pos c11] at H
                        have c11b0 : decide (0 ≤ x14_1) = true := decide_eq_true c11
                        clear c11
                        by_cases c12 : x14_1 < (l0.length : Int)
                        · rw [if_pos c12] at H
                          have c12b0 : decide (x14_1 < (l0.length : Int)) = true := decide_eq_true c12
                          clear c12
                          have c13b0 := eq_true (of_decide_eq_true (by first | (with_reducible assumption) | assumption) : 0 ≤ x21_2)
                          obtain ⟨ji14, hji14⟩ : ∃ j_ : Int, (shr .i64 (rd l0 x14_1) x21_2) = j_ := ⟨_, rfl⟩
                          replace H : (if (Go.bits .and .i64 (ji14) 1) = 1 then (if (rd l1 x21_2) = (Int.tmod (wrap64 ((rd l1 x14_1) + 1)) 3) then (if x14_1 < (x5_2.length : Int) then (impl_turnStep.l1 k2 l0 l1 (x5_2.set (x14_1 : Int).toNat (rd l1 x21_2)) x14_1 (rd l1 x14_1) l1 (l1.length : Int) x14_1 l1 (l1.length : Int) (wrap64 (x21_2 + 1))) else (none)) else (impl_turnStep.l1 k2 l0 l1 x5_2 x14_1 (rd l1 x14_1) l1 (l1.length : Int) x14_1 l1 (l1.length : Int) (wrap64 (x21_2 + 1)))) else (impl_turnStep.l1 k2 l0 l1 x5_2 x14_1 (rd l1 x14_1) l1 (l1.length : Int) x14_1 l1 (l1.length : Int) (wrap64 (x21_2 + 1)))) = some r := by first | (rw [hji14] at H; exact H) | (simp only [hji14] at H ⊢; exact H)
                          have hji14_ : ((rd l0 x14_1) / 2 ^ min x21_2.toNat 64) = ji14 := hji14
                          have hji14z : x21_2 ≤ 64 → ((rd l0 x14_1) / 2 ^ x21_2.toNat) = ji14 := shr_small hji14
                          by_cases c15 : (Go.bits .and .i64 (ji14) 1) = 1
                          · rw [if_pos c15] at H
                            have c15b0 : ((Go.bits .and .i64 (ji14) 1) == 1) = true := beq_iff_eq.mpr c15
                            have c15b1 : ((Go.bits .and .i64 (ji14) 1) != 1) = false := bne_eq_false_iff_eq.mpr c15
                            clear c15
                            by_cases c16 : (rd l1 x21_2) = (Int.tmod (wrap64 ((rd l1 x14_1) + 1)) 3)
                            · rw [if_pos c16] at H
                              have c16b0 : ((rd l1 x21_2) == (Int.tmod (wrap64 ((rd l1 x14_1) + 1)) 3)) = true := beq_iff_eq.mpr c16
                              have c16b1 : ((rd l1 x21_2) != (Int.tmod (wrap64 ((rd l1 x14_1) + 1)) 3)) = false := bne_eq_false_iff_eq.mpr c16
                              clear c16
                              by_cases c17 : x14_1 < (x5_2.length : Int)
                              · rw [if_pos c17] at H
                                have c17b0 : decide (x14_1 < (x5_2.length : Int)) = true := decide_eq_true c17
                                clear c17
                                obtain ⟨y170, hy170⟩ : ∃ y_ : List Int, y_ = (x5_2.set (x14_1 : Int).toNat (rd l1 x21_2)) := ⟨_, rfl⟩
                                replace H : (impl_turnStep.l1 k2 l0 l1 y170 x14_1 (rd l1 x14_1) l1 (l1.length : Int) x14_1 l1 (l1.length : Int) (wrap64 (x21_2 + 1))) = some r := by first | (rw [hy170]; with_reducible exact H) | (have H2_ := (Option.bind_some _ _).symm.trans H; rw [hy170]; with_reducible exact H2_) | (have H2_ := (Option.bind_some _ _).symm.trans H; with_reducible exact H2_) | with_reducible exact H | (rw [hy170]; exact H) | exact H
                                have Ny170 := Aside0.mk hy170
                                clear hy170
                                have H' := Aside0.mk H
                                clear H
                                have p168 : 0 ≤ (x21_2 : Int) := of_decide_eq_true (by first | (with_reducible assumption) | assumption)
                                have q168 : x21_2 < (l1.length : Int) := of_decide_eq_true (by first | (with_reducible assumption) | assumption)
                                obtain ⟨ad168, e168, hx168_0⟩ := Kd.at_int HR1.out x21_2 p168 q168
                                obtain rfl : ad167 = ad168 := (by injection e168)
                                replace hx168_0 := (HB.out.cell (World.block_lt_of_cell? w _ hx168_0)).trans hx168_0
                                replace p168 := eq_true p168
                                replace q168 := eq_true q168
                                have p169 : 0 ≤ (x14_1 : Int) := of_decide_eq_true (by first | (with_reducible assumption) | assumption)
                                have q169 : x14_1 < (l0.length : Int) := of_decide_eq_true (by first | (with_reducible assumption) | assumption)
                                obtain ⟨ad169, e169, hx169_0⟩ := Kd.at_int HR0.out x14_1 p169 q169
                                cases e169
                                replace hx169_0 := (HB.out.cell (World.block_lt_of_cell? w _ hx169_0)).trans hx169_0
                                replace p169 := eq_true p169
                                replace q169 := eq_true q169
                                have p18 : 0 ≤ (x14_1 : Int) := of_decide_eq_true (by first | (with_reducible assumption) | assumption)
                                have q18 : (x14_1 : Int) < ((x5_2.length : Int) : Int) := of_decide_eq_true (by first | (with_reducible assumption) | assumption)
                                obtain ⟨go18, co18, eo18, gb18, gl18, cl18, HG18⟩ := Kd.R_form HO_5.out (by omega)
                                (first | cases eo18 | (injection eo18 with ea_ en_ ec_; (first | subst ea_ | (injection ea_ with ea_; subst ea_)); subst ec_; clear en_))
                                have GB18 := Aside0.mk gb18
                                have GG18 := Aside0.mk HG18
                                clear gb18 gl18 HG18
                                obtain ⟨hx18_0, hf18_0⟩ := Kd.R_celln 0 HO_5.out (x14_1 : Int) p18 q18
                                replace p18 := eq_true p18
                                replace q18 := eq_true q18
                                have HP19 := Kd.R_putg HO_5.out (x14_1 : Int) (rd l1 x21_2)
                                go_wp2_with (first | ((with_reducible refine gate_store (t := 3) (p := 44) rfl ?_); refine store_event (t := 3) (p := 44) (v := ?vo_w20) (w1 := (wr.setCell ⟨go18, (x14_1 : Int).toNat, none⟩ (.int .i64 (rd l1 x21_2)))) ?hg ?ho ?hn ?hr ?_; (case ho => rfl); (case hg => rfl); (case hn => rfl); (case hr => first | (go_simp; done) | (go_simp; rfl)); intro w20 hw; have hg : wr.grownBy w20 (some go18) := (by rw [hw]; exact HP19.2); have hp_ : Kd.R (Kd.int .i64) 3 w20 w.heap.size (fun _ => True) (.slice (some ⟨go18, 0, none⟩) x5_2.length co18) y170 := (by rw [hw, Ny170.out]; exact HP19.1); clear HP19; have n0_ := Aside0.mk (hp_); have n1_ := Aside0.mk ((by rw [hw]; exact below_set (HB.out) GB18.out : Below w.heap.size w w20)); clear HO_5; clear HB; have HO_5 := n0_; have HB := n1_; clear n0_ n1_; clear hg hw hp_))
                                go_roundg k2
                                case measure => have := HK1.out; have := HK2.out; omega
                                case rel => exact ⟨(y170), (wrap64 (x21_2 + 1)), (by first | rfl | (simp; done) | (simp [*]; done)), H', ⟨by have := HK1.out; have := HK2.out; omega⟩, ⟨by (with_reducible repeat (first | apply Kd.R_alloc | apply Kd.R_drewN | apply Kd.R_drew)); exact HO_5.out⟩, ⟨by repeat (first | (with_reducible first | exact HB.out | apply below_alloc | apply pw_below_drewN | apply below_drew1) | exact HB.out)⟩⟩
                              · rw [if_neg c17] at H
                                exact absurd H (by simp)
                            · rw [if_neg c16] at H
                              have c16b0 : ((rd l1 x21_2) == (Int.tmod (wrap64 ((rd l1 x14_1) + 1)) 3)) = false := beq_eq_false_iff_ne.mpr c16
                              have c16b1 : ((rd l1 x21_2) != (Int.tmod (wrap64 ((rd l1 x14_1) + 1)) 3)) = true := bne_iff_ne.mpr c16
                              have H' := Aside0.mk H
                              clear H
                              have p168 : 0 ≤ (x21_2 : Int) := of_decide_eq_true (by first | (with_reducible assumption) | assumption)
                              have q168 : x21_2 < (l1.length : Int) := of_decide_eq_true (by first | (with_reducible assumption) | assumption)
                              obtain ⟨ad168, e168, hx168_0⟩ := Kd.at_int HR1.out x21_2 p168 q168
                              obtain rfl : ad167 = ad168 := (by injection e168)
                              replace hx168_0 := (HB.out.cell (World.block_lt_of_cell? w _ hx168_0)).trans hx168_0
                              replace p168 := eq_true p168
                              replace q168 := eq_true q168
                              have p169 : 0 ≤ (x14_1 : Int) := of_decide_eq_true (by first | (with_reducible assumption) | assumption)
                              have q169 : x14_1 < (l0.length : Int) := of_decide_eq_true (by first | (with_reducible assumption) | assumption)
                              obtain ⟨ad169, e169, hx169_0⟩ := Kd.at_int HR0.out x14_1 p169 q169
                              cases e169
                              replace hx169_0 := (HB.out.cell (World.block_lt_of_cell? w _ hx169_0)).trans hx169_0
                              replace p169 := eq_true p169
                              replace q169 := eq_true q169
                              go_wp2
                              go_roundg k2
                              case measure => have := HK1.out; have := HK2.out; omega
                              case rel => exact ⟨(x5_2), (wrap64 (x21_2 + 1)), (by first | rfl | (simp; done) | (simp [*]; done)), H', ⟨by have := HK1.out; have := HK2.out; omega⟩, ⟨by (with_reducible repeat (first | apply Kd.R_alloc | apply Kd.R_drewN | apply Kd.R_drew)); exact HO_5.out⟩, ⟨by repeat (first | (with_reducible first | exact HB.out | apply below_alloc | apply pw_below_drewN | apply below_drew1) | exact HB.out)⟩⟩
                          · rw [if_neg c15] at H
                            have c15b0 : ((Go.bits .and .i64 (ji14) 1) == 1) = false := beq_eq_false_iff_ne.mpr c15
                            have c15b1 : ((Go.bits .and .i64 (ji14) 1) != 1) = true := bne_iff_ne.mpr c15
                            have H' := Aside0.mk H
                            clear H
                            have p168 : 0 ≤ (x21_2 : Int) := of_decide_eq_true (by first | (with_reducible assumption) | assumption)
                            have q168 : x21_2 < (l1.length : Int) := of_decide_eq_true (by first | (with_reducible assumption) | assumption)
                            obtain ⟨ad168, e168, hx168_0⟩ := Kd.at_int HR1.out x21_2 p168 q168
                            obtain rfl : ad167 = ad168 := (by injection e168)
                            replace hx168_0 := (HB.out.cell (World.block_lt_of_cell? w _ hx168_0)).trans hx168_0
                            replace p168 := eq_true p168
                            replace q168 := eq_true q168
                            have p169 : 0 ≤ (x14_1 : Int) := of_decide_eq_true (by first | (with_reducible assumption) | assumption)
                            have q169 : x14_1 < (l0.length : Int) := of_decide_eq_true (by first | (with_reducible assumption) | assumption)
                            obtain ⟨ad169, e169, hx169_0⟩ := Kd.at_int HR0.out x14_1 p169 q169
                            cases e169
                            replace hx169_0 := (HB.out.cell (World.block_lt_of_cell? w _ hx169_0)).trans hx169_0
                            replace p169 := eq_true p169
                            replace q169 := eq_true q169
                            go_wp2
                            go_roundg k2
                            case measure => have := HK1.out; have := HK2.out; omega
                            case rel => exact ⟨(x5_2), (wrap64 (x21_2 + 1)), (by first | rfl | (simp; done) | (simp [*]; done)), H', ⟨by have := HK1.out; have := HK2.out; omega⟩, ⟨by (with_reducible repeat (first | apply Kd.R_alloc | apply Kd.R_drewN | apply Kd.R_drew)); exact HO_5.out⟩, ⟨by repeat (first | (with_reducible first | exact HB.out | apply below_alloc | apply pw_below_drewN | apply below_drew1) | exact HB.out)⟩⟩
                        · rw [if_neg c12] at H
                          exact absurd H (by simp)
                      · rw [if_neg c11] at H
                        exact absurd H (by simp)
                    · rw [if_neg c10] at H
                      exact absurd H (by simp)
                  · rw [if_neg c9] at H
                    exact absurd H (by simp)
                · rw [if_neg c8] at H
                  have c8b0 : decide (x21_2 < (l1.length : Int)) = false := decide_eq_false c8
                  clear c8
                  have H' := Aside0.mk H
                  clear H
                  go_wp2
                  go_roundg k2
                  case measure => have := HK1.out; have := HK2.out; omega
                  case rel => exact ⟨(x5_2), (wrap64 (x14_1 + 1)), (by first | rfl | (simp; done) | (simp [*]; done)), H', ⟨by have := HK1.out; have := HK2.out; omega⟩, ⟨by (with_reducible repeat (first | apply Kd.R_alloc | apply Kd.R_drewN | apply Kd.R_drew)); exact HO_5.out⟩, ⟨by repeat (first | (with_reducible first | exact HB.out | apply below_alloc | apply pw_below_drewN | apply below_drew1) | exact HB.out)⟩⟩
          · rw [if_neg c7] at H
            exact absurd H (by simp)
        · rw [if_neg c6] at H
          exact absurd H (by simp)
      · rw [if_neg c5] at H
        have c5b0 : decide (x14_1 < (l1.length : Int)) = false := decide_eq_false c5
        clear c5
        obtain rfl := Option.some.inj H
        go_wp2
        go_ret
        exact ⟨_, by first | rfl | (simp [errW_none, errW_some] <;> rfl) | (simp [*, errW_none, errW_some] <;> rfl), by (with_reducible repeat (first | apply Kd.R_alloc | apply Kd.R_drewN | apply Kd.R_drew)); exact HO_5.out, by repeat (first | (with_reducible first | exact HB.out | apply below_alloc | apply pw_below_drewN | apply below_drew1) | exact HB.out)⟩

/-! ### impl_TurnedRow: function 31 -/
mutual
def impl_TurnedRow.j0 : Nat → List Int → List Int → Int → Bool → Option (List Int)
  | 0, _, _, _, _ => none
  | k + 1, x0, x1, x2, x21 => if x21 = true then (some ([] : List Int)) else (if 0 ≤ (x0.length : Int) then (if ((x0.length : Int) : Int).toNat ≤ 35184372088832 then (impl_TurnedRow.l0 k x0 x1 (List.replicate ((x0.length : Int) : Int).toNat 0) x2 0) else (none)) else (none))
def impl_TurnedRow.l0 : Nat → List Int → List Int → List Int → Int → Int → Option (List Int)
  | 0, _, _, _, _, _ => none
  | k + 1, x0, x1, x7, x25, x26 => if x26 < x25 then ((impl_turnStep.f k x0 x1).bind fun t270 => (impl_TurnedRow.l1 k x0 x1 x7 t270 x25 x26 (x7.length : Int) 0)) else (some x7)
def impl_TurnedRow.l1 : Nat → List Int → List Int → List Int → List Int → Int → Int → Int → Int → Option (List Int)
  | 0, _, _, _, _, _, _, _, _ => none
  | k + 1, x0, x1, x7, x8, x25, x26, x32, x33 => if x33 < x32 then (if 0 ≤ x33 then (if x33 < (x8.length : Int) then (if x33 < (x1.length : Int) then (if (rd x8 x33) = (rd x1 x33) then (impl_TurnedRow.l1 k x0 x1 x7 x8 x25 x26 x32 (wrap64 (x33 + 1))) else (if x33 < (x7.length : Int) then (impl_TurnedRow.l1 k x0 x1 (x7.set (x33 : Int).toNat (wrap64 ((rd x7 x33) + 1))) x8 x25 x26 x32 (wrap64 (x33 + 1))) else (none))) else (none)) else (none)) else (none)) else (impl_TurnedRow.l0 k x0 x8 x7 x25 (wrap64 (x26 + 1)))
end
def impl_TurnedRow.f (k : Nat) (l0 : List Int) (l1 : List Int) (a2 : Int) : Option (List Int) := (impl_asked.f k l0 3 l1).bind fun t266 => (if t266 = true then (if a2 < 0 then (impl_TurnedRow.j0 k l0 l1 a2 true) else (impl_TurnedRow.j0 k l0 l1 a2 (decide (a2 > 60)))) else (impl_TurnedRow.j0 k l0 l1 a2 true))
theorem impl_TurnedRow.mono_l : ∀ k, (∀ y0 y1 y2 y3, LeO (impl_TurnedRow.j0 k y0 y1 y2 y3) (impl_TurnedRow.j0 (k + 1) y0 y1 y2 y3)) ∧ (∀ y0 y1 y2 y3 y4, LeO (impl_TurnedRow.l0 k y0 y1 y2 y3 y4) (impl_TurnedRow.l0 (k + 1) y0 y1 y2 y3 y4)) ∧ (∀ y0 y1 y2 y3 y4 y5 y6 y7, LeO (impl_TurnedRow.l1 k y0 y1 y2 y3 y4 y5 y6 y7) (impl_TurnedRow.l1 (k + 1) y0 y1 y2 y3 y4 y5 y6 y7))
  | 0 => ⟨fun _ _ _ _ r h => by simp [impl_TurnedRow.j0] at h, fun _ _ _ _ _ r h => by simp [impl_TurnedRow.l0] at h, fun _ _ _ _ _ _ _ _ r h => by simp [impl_TurnedRow.l1] at h⟩
  | k + 1 => by
    obtain ⟨ih0, ih1, ih2⟩ := impl_TurnedRow.mono_l k
    refine ⟨?_, ?_, ?_⟩
    · intro y0 y1 y2 y3
      unfold impl_TurnedRow.j0
      repeat' first
      | (with_reducible exact ih0 _ _ _ _)
      | (with_reducible exact ih1 _ _ _ _ _)
      | (with_reducible exact ih2 _ _ _ _ _ _ _ _)
      | (with_reducible exact impl_asked.mono _ _ _ _)
      | (with_reducible exact impl_turnStep.mono _ _ _)
      | (with_reducible exact LeO.refl _)
      | (with_reducible exact LeO.none _)
      | (with_reducible refine LeO.ite ?_ ?_)
      | (with_reducible refine LeO.bind ?_ (fun _ => ?_))
      | exact ih0 _ _ _ _
      | exact ih1 _ _ _ _ _
      | exact ih2 _ _ _ _ _ _ _ _
      | exact impl_asked.mono _ _ _ _
      | exact impl_turnStep.mono _ _ _
      | exact LeO.none _
      | refine LeO.ite ?_ ?_
      | refine LeO.bind ?_ (fun _ => ?_)
    · intro y0 y1 y2 y3 y4
      unfold impl_TurnedRow.l0
      repeat' first
      | (with_reducible exact ih0 _ _ _ _)
      | (with_reducible exact ih1 _ _ _ _ _)
      | (with_reducible exact ih2 _ _ _ _ _ _ _ _)
      | (with_reducible exact impl_asked.mono _ _ _ _)
      | (with_reducible exact impl_turnStep.mono _ _ _)
      | (with_reducible exact LeO.refl _)
      | (with_reducible exact LeO.none _)
      | (with_reducible refine LeO.ite ?_ ?_)
      | (with_reducible refine LeO.bind ?_ (fun _ => ?_))
      | exact ih0 _ _ _ _
      | exact ih1 _ _ _ _ _
      | exact ih2 _ _ _ _ _ _ _ _
      | exact impl_asked.mono _ _ _ _
      | exact impl_turnStep.mono _ _ _
      | exact LeO.none _
      | refine LeO.ite ?_ ?_
      | refine LeO.bind ?_ (fun _ => ?_)
    · intro y0 y1 y2 y3 y4 y5 y6 y7
      unfold impl_TurnedRow.l1
      repeat' first
      | (with_reducible exact ih0 _ _ _ _)
      | (with_reducible exact ih1 _ _ _ _ _)
      | (with_reducible exact ih2 _ _ _ _ _ _ _ _)
      | (with_reducible exact impl_asked.mono _ _ _ _)
      | (with_reducible exact impl_turnStep.mono _ _ _)
      | (with_reducible exact LeO.refl _)
      | (with_reducible exact LeO.none _)
      | (with_reducible refine LeO.ite ?_ ?_)
      | (with_reducible refine LeO.bind ?_ (fun _ => ?_))
      | exact ih0 _ _ _ _
      | exact ih1 _ _ _ _ _
      | exact ih2 _ _ _ _ _ _ _ _
      | exact impl_asked.mono _ _ _ _
      | exact impl_turnStep.mono _ _ _
      | exact LeO.none _
      | refine LeO.ite ?_ ?_
      | refine LeO.bind ?_ (fun _ => ?_)
theorem impl_TurnedRow.mono : ∀ a0 a1 a2 k, LeO (impl_TurnedRow.f k a0 a1 a2) (impl_TurnedRow.f (k + 1) a0 a1 a2) := by
  intro a0 a1 a2 k
  obtain ⟨ih0, ih1, ih2⟩ := impl_TurnedRow.mono_l k
  unfold impl_TurnedRow.f
  repeat' first
      | (with_reducible exact ih0 _ _ _ _)
      | (with_reducible exact ih1 _ _ _ _ _)
      | (with_reducible exact ih2 _ _ _ _ _ _ _ _)
      | (with_reducible exact impl_asked.mono _ _ _ _)
      | (with_reducible exact impl_turnStep.mono _ _ _)
      | (with_reducible exact LeO.refl _)
      | (with_reducible exact LeO.none _)
      | (with_reducible refine LeO.ite ?_ ?_)
      | (with_reducible refine LeO.bind ?_ (fun _ => ?_))
      | exact ih0 _ _ _ _
      | exact ih1 _ _ _ _ _
      | exact ih2 _ _ _ _ _ _ _ _
      | exact impl_asked.mono _ _ _ _
      | exact impl_turnStep.mono _ _ _
      | exact LeO.none _
      | refine LeO.ite ?_ ?_
      | refine LeO.bind ?_ (fun _ => ?_)
theorem impl_TurnedRow.C_set {w : World} {A : Option Addr} {n g j : Nat} {xs : List Int} {u : Value} (h : Kd.C (Kd.int .i64) w A n xs) (hne : 0 < n → ∀ ad, A = some ad → ad.block ≠ g) : Kd.C (Kd.int .i64) (w.setCell ⟨g, j, none⟩ u) A n xs := by
  refine ⟨h.1, h.2.1, fun hn => ?_⟩
  obtain ⟨ad, e, hc⟩ := h.2.2 hn
  refine ⟨ad, e, fun j2 p hj => ?_⟩
  obtain ⟨c, hs, hr, hcell⟩ := hc j2 p hj
  refine ⟨c, hs, hr, fun i u2 hu => ?_⟩
  exact (World.cell?_of_block (a := ad.add (j2 * (Kd.int .i64).sz + i)) (Below.heap_setCell w ⟨g, j, none⟩ u _ (by rw [add_block]; exact hne hn ad e))).trans (hcell i u2 hu)
theorem impl_TurnedRow.C_block {w : World} {A : Option Addr} {n : Nat} {xs : List Int} (h : Kd.C (Kd.int .i64) w A n xs) (hn : 0 < n) : ∀ ad, A = some ad → ad.block < w.heap.size := by
  intro ad e
  obtain ⟨ad', e', hc⟩ := Kd.at_int h 0 (by omega) (by omega)
  rw [e] at e'
  injection e' with e'
  subst e'
  have h1 : w.cell? (ad.add (0 : Int).toNat) = _ := hc
  unfold World.cell? at h1
  have e2 : (ad.add (0 : Int).toNat).block = ad.block := rfl
  rw [e2] at h1
  cases hx : w.heap[ad.block]? with
  | none => rw [hx] at h1; simp at h1
  | some o => exact (Array.getElem?_eq_some_iff.1 hx).1
set_option maxHeartbeats 8000000 in
set_option maxRecDepth 100000 in
theorem impl_TurnedRow.calls (k : Nat) (A0 : Option Addr) (c0 : Nat) (l0 : List Int) (A1 : Option Addr) (c1 : Nat) (l1 : List Int) (a2 : Int) (r : List Int) (w : World) (hr0 : Kd.C (Kd.int .i64) w A0 l0.length l0) (hc0 : l0.length ≤ c0) (hr1 : Kd.C (Kd.int .i64) w A1 l1.length l1) (hc1 : l1.length ≤ c1) (h : impl_TurnedRow.f k l0 l1 a2 = some r) :
    Calls Try.prog 31 #[.slice A0 l0.length c0, .slice A1 l1.length c1, .int .i64 a2] w fun e w' => ∃ v0_ : Value, e = .returned (v0_) ∧ Kd.R (Kd.int .i64) 3 w' w.heap.size (fun _ => True) v0_ r ∧ Below w.heap.size w w' := by
  have HR0 := Aside0.mk hr0
  have HC0 := Aside0.mk hc0
  clear hr0 hc0
  have HR1 := Aside0.mk hr1
  have HC1 := Aside0.mk hc1
  clear hr1 hc1
  unfold impl_TurnedRow.f at h
  replace h := Option.bind_eq_some_iff.mp h
  obtain ⟨t, hA, h⟩ := h
  have HA := Aside0.mk hA
  clear hA
  have hnil : ∀ {k' : Nat}, impl_TurnedRow.j0 k' l0 l1 a2 true = some r → r = [] := by
    intro k' h'
    cases k' with
    | zero => simp [impl_TurnedRow.j0] at h'
    | succ k' => simp [impl_TurnedRow.j0] at h'; exact h'
  have HNIL := Aside0.mk @hnil
  clear hnil
  cases t with
  | false =>
    obtain rfl := HNIL.out (by simpa using h)
    clear h HNIL
    go_enter Try.func31, Try.ntmps31
    go_wp2_with (first | (go_at_call 44; (with_reducible refine (impl_asked.calls k A0 c0 l0 3 A1 c1 l1 false _ HR0.out HC0.out HR1.out HC1.out HA.out).mono ?_); rintro e w2 ⟨rfl, ⟨nd, rfl⟩⟩))
    go_ret
    exact ⟨_, rfl, Kd.R_nil _ _ _ _ _, pw_below_drewN (Below.refl _ _) nd⟩
  | true =>
    rw [if_pos rfl] at h
    by_cases h1 : a2 < 0
    · rw [if_pos h1] at h
      obtain rfl := HNIL.out h
      clear h HNIL
      have h1b : decide (a2 < 0) = true := decide_eq_true h1
      clear h1
      go_enter Try.func31, Try.ntmps31
      go_wp2_with (first | (go_at_call 44; (with_reducible refine (impl_asked.calls k A0 c0 l0 3 A1 c1 l1 true _ HR0.out HC0.out HR1.out HC1.out HA.out).mono ?_); rintro e w2 ⟨rfl, ⟨nd, rfl⟩⟩))
      go_ret
      exact ⟨_, rfl, Kd.R_nil _ _ _ _ _, pw_below_drewN (Below.refl _ _) nd⟩
    · rw [if_neg h1] at h
      have h1b : decide (a2 < 0) = false := decide_eq_false h1
      clear h1
      by_cases h2 : a2 > 60
      · have h2b : decide (a2 > 60) = true := decide_eq_true h2
        rw [h2b] at h
        obtain rfl := HNIL.out h
        clear h HNIL h2
        go_enter Try.func31, Try.ntmps31
        go_wp2_with (first | (go_at_call 44; (with_reducible refine (impl_asked.calls k A0 c0 l0 3 A1 c1 l1 true _ HR0.out HC0.out HR1.out HC1.out HA.out).mono ?_); rintro e w2 ⟨rfl, ⟨nd, rfl⟩⟩))
        go_ret
        exact ⟨_, rfl, Kd.R_nil _ _ _ _ _, pw_below_drewN (Below.refl _ _) nd⟩
      · have h2b : decide (a2 > 60) = false := decide_eq_false h2
        rw [h2b] at h
        clear h2 HNIL
        cases k with
        | zero => exact absurd h (by simp [impl_TurnedRow.j0])
        | succ kj =>
          simp only [impl_TurnedRow.j0] at h
          rw [if_neg (by simp), if_pos (by omega)] at h
          by_cases hz : ((l0.length : Int) : Int).toNat ≤ 35184372088832
          · rw [if_pos hz] at h
            have HZ := Aside0.mk hz
            clear hz
            have H' := Aside0.mk h
            clear h
            go_enter Try.func31, Try.ntmps31
            go_wp2_with (first | (go_at_call 44; (with_reducible refine (impl_asked.calls _ A0 c0 l0 3 A1 c1 l1 true _ HR0.out HC0.out HR1.out HC1.out HA.out).mono ?_); rintro e w2 ⟨rfl, ⟨nd, rfl⟩⟩) | ((with_reducible refine gate_dst (N := 24) rfl ?_); refine Kd.R_make (Kd.int .i64) (w0 := w) w.heap.size 3 rfl (N := 24) rfl 22 _ _ rfl (l0.length : Int) rfl rfl Try.underlying22 (.int .i64 0) 8 info3 rfl (by decide) (by omega) 0 (ok := fun _ => True) (okp := fun _ => True) rfl (fun _ hk => hk) trivial (by omega) (Nat.le_trans (Nat.mul_le_mul_right _ HZ.out) (by omega)) (pw_below_drewN (Below.refl _ _) nd) (Nat.le_refl _) ?_; intro vo w3 ho3 hb3 hg3 hn3; have HO := Aside0.mk ho3; have HB := Aside0.mk hb3; clear ho3 hb3 hg3 hn3))
            obtain ⟨Ao, co, eo⟩ := Kd.R_slice HO.out
            subst eo
            obtain ⟨M, hM⟩ : ∃ M, M = (List.replicate ((l0.length : Int) : Int).toNat (0 : Int)).length := ⟨_, rfl⟩
            rw [← hM] at HO ⊢
            clear hM
            have hbase := Kd.R_base HO.out
            have HBASE := Aside0.mk hbase
            clear hbase
            go_loopg [1, 26] kj (fun kq v1 v26 w' => ∃ (st x7 : List Int) (x26 : Int) (A : Option Addr) (c : Nat), v1 = .slice A st.length c ∧ v26 = .int .i64 x26 ∧ Aside0 (impl_TurnedRow.l0 kq l0 st x7 a2 x26 = some r) ∧ Aside0 (kq ≤ kj) ∧ Aside0 (Kd.C (Kd.int .i64) w' A st.length st) ∧ Aside0 (st.length ≤ c) ∧ Aside0 (0 < st.length → ∀ ad, A = some ad → ∀ g, (Value.slice Ao M co).ownBlock = some g → ad.block ≠ g) ∧ Aside0 (Kd.R (Kd.int .i64) 3 w' w.heap.size (fun _ => True) (.slice Ao M co) x7) ∧ Aside0 (Below w.heap.size w w'))
            case atStart => exact ⟨l1, _, 0, A1, c1, rfl, rfl, H', ⟨Nat.le_refl _⟩, ⟨Kd.C_below HR1.out HB.out⟩, HC1, ⟨fun hp ad e g hg => by have h1 := impl_TurnedRow.C_block HR1.out hp ad e; have h2 := HBASE.out g hg; omega⟩, HO, HB⟩
            case round =>
              clear H'
              obtain ⟨st, x7, x26, A, c, rfl, rfl, HL, HK, HS, HC, HF, HO, HB⟩ := hrel
              have hxl := (Kd.R_reads' HO.out).1
              have HXL := Aside0.mk hxl
              clear hxl
              cases gk with
              | zero => exact absurd HL.out (by simp [impl_TurnedRow.l0])
              | succ k2 =>
                have H := HL.out
                clear HL
                simp only [impl_TurnedRow.l0] at H
                by_cases c13 : x26 < a2
                · rw [if_pos c13] at H
                  have c13b0 : decide (x26 < a2) = true := decide_eq_true c13
                  clear c13
                  replace H := Option.bind_eq_some_iff.mp H
                  obtain ⟨y, hY, H⟩ := H
                  rw [← HXL.out] at H
                  have HY := Aside0.mk hY
                  clear hY
                  have H' := Aside0.mk H
                  clear H
                  go_wp2_with (first | (go_at_call 49; (with_reducible refine (impl_turnStep.calls k2 A0 c0 l0 A c st y _ (Kd.C_below HR0.out HB.out) HC0.out HS.out HC.out HY.out).mono ?_); rintro e w4 ⟨v0, rfl, ho4, hb4⟩; have HO4 := Aside0.mk ho4; have HB4 := Aside0.mk hb4; clear ho4 hb4; obtain ⟨A4, c4, rfl, hc4, hC4⟩ := Kd.R_reads HO4.out; have HC4 := Aside0.mk hc4; have HS4 := Aside0.mk hC4; clear hc4 hC4))
                  have HF4 : Aside0 (0 < y.length → ∀ ad, A4 = some ad → ∀ g, (Value.slice Ao M co).ownBlock = some g → ad.block ≠ g) := ⟨fun hp ad e g hg => by
                    have h1 := Kd.R_lt HO.out g hg
                    obtain ⟨g4, cap4, e4, hg4, _⟩ := Kd.R_form HO4.out hp
                    injection e4 with e4
                    rw [e] at e4
                    injection e4 with e4
                    subst e4
                    show g4 ≠ g
                    omega⟩
                  have HS2 := Aside0.mk (Kd.C_below HS.out HB4.out)
                  have HO2 := Aside0.mk (Kd.R_below HO.out HB4.out)
                  have HB2 := Aside0.mk (below_step HB.out HB4.out)
                  clear HO4 HB4 HS HO HB HXL
                  go_loopg [33] k2 (fun kq v33 w' => ∃ (x7' : List Int) (x33 : Int), v33 = .int .i64 x33 ∧ Aside0 (impl_TurnedRow.l1 kq l0 st x7' y a2 x26 (M : Int) x33 = some r) ∧ Aside0 (kq ≤ k2) ∧ Aside0 (Kd.C (Kd.int .i64) w' A st.length st) ∧ Aside0 (Kd.C (Kd.int .i64) w' A4 y.length y) ∧ Aside0 (Kd.R (Kd.int .i64) 3 w' w.heap.size (fun _ => True) (.slice Ao M co) x7') ∧ Aside0 (Below w.heap.size w w'))
                  case atStart => exact ⟨x7, 0, rfl, H', ⟨Nat.le_refl _⟩, HS2, HS4, HO2, HB2⟩
                  case round =>
                    clear H' HS2 HS4 HO2 HB2
                    obtain ⟨x7', x33, rfl, HL, HK2, HS, HS4, HO, HB⟩ := hrel
                    cases gk with
                    | zero => exact absurd HL.out (by simp [impl_TurnedRow.l1])
                    | succ k3 =>
                      have H := HL.out
                      clear HL
                      simp only [impl_TurnedRow.l1] at H
                      by_cases c18 : x33 < (M : Int)
                      · rw [if_pos c18] at H
                        have c18b0 : decide (x33 < (M : Int)) = true := decide_eq_true c18
                        by_cases c19 : 0 ≤ x33
                        · rw [if_pos c19] at H
                          have c19b0 : decide (0 ≤ x33) = true := decide_eq_true c19
                          by_cases c20 : x33 < (y.length : Int)
                          · rw [if_pos c20] at H
                            have c20b0 : decide (x33 < (y.length : Int)) = true := decide_eq_true c20
                            by_cases c21 : x33 < (st.length : Int)
                            · rw [if_pos c21] at H
                              have c21b0 : decide (x33 < (st.length : Int)) = true := decide_eq_true c21
                              obtain ⟨ad4, e4, hx4⟩ := Kd.at_int HS4.out x33 c19 c20
                              obtain ⟨ad1, e1, hx1⟩ := Kd.at_int HS.out x33 c19 c21
                              subst e4
                              subst e1
                              by_cases c22 : (rd y x33) = (rd st x33)
                              · rw [if_pos c22] at H
                                have c22b1 : ((rd y x33) != (rd st x33)) = false := bne_eq_false_iff_eq.mpr c22
                                clear c22
                                have H' := Aside0.mk H
                                clear H
                                go_wp2_with (fail)
                                go_quiet (fail)
                                (try go_wp2_with (fail))
                                go_roundg k3
                                case measure => have := HK2.out; omega
                                case rel => exact ⟨x7', wrap64 (x33 + 1), rfl, H', ⟨by have := HK2.out; omega⟩, ⟨by first | exact HS.out | exact Kd.C_drewN HS.out _⟩, ⟨by first | exact HS4.out | exact Kd.C_drewN HS4.out _⟩, ⟨by first | exact HO.out | exact Kd.R_drewN HO.out _⟩, ⟨by first | exact HB.out | exact pw_below_drewN HB.out _⟩⟩
                              · rw [if_neg c22] at H
                                have c22b1 : ((rd y x33) != (rd st x33)) = true := bne_iff_ne.mpr c22
                                clear c22
                                have hxl := (Kd.R_reads' HO.out).1
                                rw [if_pos (by rw [← hxl]; exact c18)] at H
                                clear hxl
                                have H' := Aside0.mk H
                                clear H
                                obtain ⟨go, co', eo', gb, gl, hcells⟩ := Kd.R_form HO.out (by have := (Kd.R_reads' HO.out).1; omega)
                                injection eo' with ea en ec
                                subst ea
                                clear en ec
                                have GB := Aside0.mk gb
                                clear gb gl hcells
                                obtain ⟨hx7, hf7⟩ := Kd.R_celln 0 HO.out x33 c19 c18
                                go_wp2_with (fail)
                                go_quiet (fail)
                                (try go_wp2_with (fail))
                                go_roundg k3
                                case measure => have := HK2.out; omega
                                case rel => exact ⟨x7'.set x33.toNat (wrap64 (rd x7' x33 + 1)), wrap64 (x33 + 1), rfl, H', ⟨by have := HK2.out; omega⟩, ⟨impl_TurnedRow.C_set (Kd.C_drewN HS.out _) (fun hp ad e => HF.out hp ad e go rfl)⟩, ⟨impl_TurnedRow.C_set (Kd.C_drewN HS4.out _) (fun hp ad e => HF4.out hp ad e go rfl)⟩, ⟨Kd.R_putn (Kd.R_drewN HO.out _) x33 _⟩, ⟨below_set (pw_below_drewN HB.out _) GB.out⟩⟩
                            · rw [if_neg c21] at H
                              exact absurd H (by simp)
                          · rw [if_neg c20] at H
                            exact absurd H (by simp)
                        · rw [if_neg c19] at H
                          exact absurd H (by simp)
                      · rw [if_neg c18] at H
                        have c18b0 : decide (x33 < (M : Int)) = false := decide_eq_false c18
                        clear c18
                        have H' := Aside0.mk H
                        clear H
                        go_wp2
                        go_roundg k3
                        case measure => have := HK2.out; omega
                        case rel => exact ⟨y, x7', wrap64 (x26 + 1), A4, c4, rfl, rfl, H', ⟨by have := HK2.out; have := HK.out; omega⟩, HS4, HC4, HF4, HO, HB⟩
                · rw [if_neg c13] at H
                  have c13b0 : decide (x26 < a2) = false := decide_eq_false c13
                  clear c13
                  obtain rfl := Option.some.inj H
                  go_wp2
                  go_ret
                  exact ⟨_, rfl, HO.out, HB.out⟩
          · rw [if_neg hz] at h
            exact absurd h (by simp)

end Go.Proofs.Ytokhnnhinafnfaa.PFnExactTurnedRow
