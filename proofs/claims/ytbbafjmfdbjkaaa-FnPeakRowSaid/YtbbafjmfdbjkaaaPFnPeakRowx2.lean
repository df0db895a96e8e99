-- Written by a program of this session (the kit's print, changed).
import Derived.Test.YtbbafjmfdbjkaaaSq
import Derived.Test.YtbbafjmfdbjkaaaPFnPeakRowx0
import Derived.Test.YtbbafjmfdbjkaaaPFnPeakRowx1
namespace Go.Proofs.Ytbbafjmfdbjkaaa.PFnPeakRow
open Go.RowKit Go.Proofs.YtbbafjmfdbjkaaaW.PrintWords Go.Proofs.YtbbafjmfdbjkaaaW.PrintLast Go.Proofs.YtbbafjmfdbjkaaaW.PrintMore
attribute [local go_sem] max2_int min2_int max_two min_two max_three min_three max_four min_four   -- for this text's walks alone
set_option linter.unusedVariables false
set_option linter.unusedSimpArgs false

/-! ### impl_turnStep: function 64 -/
mutual
def impl_turnStep.l0 : Nat → List Int → List Int → List Int → List Int → Int → Int → Option (List Int)
 | 0, _, _, _, _, _, _ => none
 | k + 1, x0, x1, x5, x12, x13, x14 => if x14 < x13 then (if 0 ≤ x14 then (if x14 < (x12.length : Int) then (impl_turnStep.l1 k x0 x1 x5 x14 (rd x12 x14) x12 x13 x14 x1 (x1.length : Int) 0) else (none)) else (none)) else (some x5)
def impl_turnStep.l1 : Nat → List Int → List Int → List Int → Int → Int → List Int → Int → Int → List Int → Int → Int → Option (List Int)
 | 0, _, _, _, _, _, _, _, _, _, _, _ => none
 | k + 1, x0, x1, x5, x6, x7, x12, x13, x14, x19, x20, x21 => if x21 < x20 then (if 0 ≤ x21 then (if x21 < (x19.length : Int) then (if 0 ≤ x6 then (if x6 < (x0.length : Int) then (if (Go.bits .and .i64 (shr .i64 (rd x0 x6) x21) 1) = 1 then (if (rd x19 x21) = (Int.tmod (wrap64 (x7 + 1)) 3) then (if x6 < (x5.length : Int) then (impl_turnStep.l1 k x0 x1 (x5.set (x6 : Int).toNat (rd x19 x21)) x6 x7 x12 x13 x14 x19 x20 (wrap64 (x21 + 1))) else (none)) else (impl_turnStep.l1 k x0 x1 x5 x6 x7 x12 x13 x14 x19 x20 (wrap64 (x21 + 1)))) else (impl_turnStep.l1 k x0 x1 x5 x6 x7 x12 x13 x14 x19 x20 (wrap64 (x21 + 1)))) else (none)) else (none)) else (none)) else (none)) else (impl_turnStep.l0 k x0 x1 x5 x12 x13 (wrap64 (x14 + 1)))
end
def impl_turnStep.f (k : Nat) (l0 : List Int) (l1 : List Int) : Option (List Int) := (slices_Clone_int_int.f l1).bind fun t120 => (impl_turnStep.l0 k l0 l1 t120 l1 (l1.length : Int) 0)
theorem impl_turnStep.mono_l : ∀ k, (∀ y0 y1 y2 y3 y4 y5, LeO (impl_turnStep.l0 k y0 y1 y2 y3 y4 y5) (impl_turnStep.l0 (k + 1) y0 y1 y2 y3 y4 y5)) ∧ (∀ y0 y1 y2 y3 y4 y5 y6 y7 y8 y9 y10, LeO (impl_turnStep.l1 k y0 y1 y2 y3 y4 y5 y6 y7 y8 y9 y10) (impl_turnStep.l1 (k + 1) y0 y1 y2 y3 y4 y5 y6 y7 y8 y9 y10))
 | 0 => ⟨fun _ _ _ _ _ _ r h => by simp [impl_turnStep.l0] at h, fun _ _ _ _ _ _ _ _ _ _ _ r h => by simp [impl_turnStep.l1] at h⟩
 | k + 1 => by
  obtain ⟨ih0, ih1⟩ := impl_turnStep.mono_l k
  refine ⟨?_, ?_⟩
  ·intro y0 y1 y2 y3 y4 y5
   unfold impl_turnStep.l0
   repeat' first|(with_reducible first|exact ih0 _ _ _ _ _ _|exact ih1 _ _ _ _ _ _ _ _ _ _ _|exact LeO.refl _|exact LeO.none _|refine LeO.ite ?_ ?_|refine LeO.bind ?_ (fun _ => ?_))|exact ih0 _ _ _ _ _ _|exact ih1 _ _ _ _ _ _ _ _ _ _ _|exact LeO.none _|refine LeO.ite ?_ ?_|refine LeO.bind ?_ (fun _ => ?_)
  ·intro y0 y1 y2 y3 y4 y5 y6 y7 y8 y9 y10
   unfold impl_turnStep.l1
   repeat' first|(with_reducible first|exact ih0 _ _ _ _ _ _|exact ih1 _ _ _ _ _ _ _ _ _ _ _|exact LeO.refl _|exact LeO.none _|refine LeO.ite ?_ ?_|refine LeO.bind ?_ (fun _ => ?_))|exact ih0 _ _ _ _ _ _|exact ih1 _ _ _ _ _ _ _ _ _ _ _|exact LeO.none _|refine LeO.ite ?_ ?_|refine LeO.bind ?_ (fun _ => ?_)
theorem impl_turnStep.mono : ∀ a0 a1 k, LeO (impl_turnStep.f k a0 a1) (impl_turnStep.f (k + 1) a0 a1) := by
 intro a0 a1 k
 obtain ⟨ih0, ih1⟩ := impl_turnStep.mono_l k
 unfold impl_turnStep.f
 repeat' first|(with_reducible first|exact ih0 _ _ _ _ _ _|exact ih1 _ _ _ _ _ _ _ _ _ _ _|exact LeO.refl _|exact LeO.none _|refine LeO.ite ?_ ?_|refine LeO.bind ?_ (fun _ => ?_))|exact ih0 _ _ _ _ _ _|exact ih1 _ _ _ _ _ _ _ _ _ _ _|exact LeO.none _|refine LeO.ite ?_ ?_|refine LeO.bind ?_ (fun _ => ?_)
set_option maxHeartbeats 8000000 in
set_option maxRecDepth 100000 in
theorem impl_turnStep.calls (k : Nat) (A0 : Option Addr) (c0 : Nat) (l0 : List Int) (A1 : Option Addr) (c1 : Nat) (l1 : List Int) (r : List Int) (w : World) (hr0 : Kd.C (Kd.int .i64) w A0 l0.length l0) (hc0 : l0.length ≤ c0) (hr1 : Kd.C (Kd.int .i64) w A1 l1.length l1) (hc1 : l1.length ≤ c1) (h : impl_turnStep.f k l0 l1 = some r) :
  Calls Try.prog 64 #[.slice A0 l0.length c0, .slice A1 l1.length c1] w fun e w' => ∃ v0_ : Value, e = .returned (v0_) ∧ Kd.R (Kd.int .i64) 3 w' w.heap.size (fun _ => True) v0_ r ∧ Below w.heap.size w w' := by
 have HR0 := Aside0.mk hr0
 have HC0 := Aside0.mk hc0
 clear hr0 hc0
 have HR1 := Aside0.mk hr1
 have HC1 := Aside0.mk hc1
 clear hr1 hc1
 have HB := Aside0.mk (Below.refl w.heap.size w)
 have H : ((slices_Clone_int_int.f l1).bind fun t120 => (impl_turnStep.l0 k l0 l1 t120 l1 (l1.length : Int) 0)) = some r := h
 clear h
 replace H := Option.bind_eq_some_iff.mp H
 obtain ⟨t120, A30, H⟩ := H
 replace H : (impl_turnStep.l0 k l0 l1 t120 l1 (l1.length : Int) 0) = some r := H
 have A3 := Aside0.mk A30
 clear A30
 have H' := Aside0.mk H
 clear H
 go_enter Try.func64, Try.ntmps64
 go_wp2_with (first|((with_reducible refine gate_callee (f := 66) rfl ?_); refine goesL_ (some 11) rfl rfl Try.func66 (by kernel_rfl) rfl #[.slice A1 l1.length c1] rfl (by (try simp only [List.map_toArray, List.map_cons, List.map_nil]); first|done|rfl|(simp only [List.length_drop, List.length_take]; rfl)) ?_; (with_reducible refine (slices_Clone_int_int.calls _ _ l1 t120 _ ?side1 ?side2 A3.out).mono ?_); (case side1 => repeat (first|exact HR1.out|(with_reducible first|refine cA ?_ _|refine cN ?_ _|refine cD ?_))); (case side2 => exact HC1.out); rintro e w4 ⟨v121, rfl, ho0, hb⟩; refine ⟨_, rfl, ?_⟩; have n0_ := Aside0.mk (Kd.R_lower ho0 (below_size (by repeat (first|(with_reducible first|exact HB.out|apply bA|apply bN|apply bD)|exact HB.out)))); have n1_ := Aside0.mk (below_step (by repeat (first|(with_reducible first|exact HB.out|apply bA|apply bN|apply bD)|exact HB.out)) hb); clear HB; have HO122 := n0_; have HB := n1_; clear n0_ n1_; (try clear hb); (try clear hb2); (try clear hk); (try clear hi); (try clear ho0)))
 go_loopg [14] k (fun kq v14 w' => ∃ (x5_1 : List Int) (x14_1 : Int), v14 = .int .i64 x14_1 ∧ Aside0 (impl_turnStep.l0 kq l0 l1 x5_1 l1 (l1.length : Int) x14_1 = some r) ∧ Aside0 (kq ≤ k) ∧ Aside0 (Kd.R (Kd.int .i64) 3 w' w.heap.size (fun _ => True) v121 x5_1) ∧ Aside0 (Below w.heap.size w w'))
 case atStart => exact ⟨(t120), (0), (by first|rfl|(simp; done)|(simp [*]; done)), H', ⟨Nat.le_refl _⟩, ⟨by (with_reducible repeat first|apply rA|apply rN|apply rD); exact HO122.out⟩, ⟨by repeat (first|(with_reducible first|exact HB.out|apply bA|apply bN|apply bD)|exact HB.out)⟩⟩
 case round =>
  clear H'
  try clear c1
  try clear p2
  obtain ⟨x5_1, x14_1, rfl, HA, HK1, HO_5, HB⟩ := hrel
  cases gk with
  | zero => exact absurd HA.out (by simp [impl_turnStep.l0])
  | succ k1 =>
   have H := HA.out
   clear HA
   simp only [impl_turnStep.l0] at H
   by_cases c5 : x14_1 < (l1.length : Int)
   ·rw [if_pos c5] at H
    have c5b0 : decide (x14_1 < (l1.length : Int)) = true := decide_eq_true c5
    clear c5
    by_cases c6 : 0 ≤ x14_1
    ·rw [if_pos c6] at H
     have c6b0 : decide (0 ≤ x14_1) = true := decide_eq_true c6
     clear c6
     by_cases c7 : x14_1 < (l1.length : Int)
     ·rw [if_pos c7] at H
      have c7b0 : decide (x14_1 < (l1.length : Int)) = true := decide_eq_true c7
      clear c7
      have H' := Aside0.mk H
      clear H
      have p123 : 0 ≤ (x14_1 : Int) := of_decide_eq_true (by first|(with_reducible assumption)|assumption)
      have q123 : x14_1 < (l1.length : Int) := of_decide_eq_true (by first|(with_reducible assumption)|assumption)
      obtain ⟨ad123, e123, hx123_0⟩ := Kd.at_int HR1.out x14_1 p123 q123
      cases e123
      replace hx123_0 := (HB.out.cell (World.block_lt_of_cell? w _ hx123_0)).trans hx123_0
      replace p123 := eq_true p123
      replace q123 := eq_true q123
      go_wp2
      go_loopg [21] k1 (fun kq v21 w' => ∃ (x5_2 : List Int) (x21_2 : Int), v21 = .int .i64 x21_2 ∧ Aside0 (impl_turnStep.l1 kq l0 l1 x5_2 x14_1 (rd l1 x14_1) l1 (l1.length : Int) x14_1 l1 (l1.length : Int) x21_2 = some r) ∧ Aside0 (kq ≤ k1) ∧ Aside0 (Kd.R (Kd.int .i64) 3 w' w.heap.size (fun _ => True) v121 x5_2) ∧ Aside0 (Below w.heap.size w w'))
      case atStart => exact ⟨(x5_1), (0), (by first|rfl|(simp; done)|(simp [*]; done)), H', ⟨Nat.le_refl _⟩, ⟨by (with_reducible repeat first|apply rA|apply rN|apply rD); exact HO_5.out⟩, ⟨by repeat (first|(with_reducible first|exact HB.out|apply bA|apply bN|apply bD)|exact HB.out)⟩⟩
      case round =>
       clear H'
       try clear c1
       try clear p1
       try clear q1
       try clear hx1
       try clear p2
       try clear c5
       try clear c5b0
       try clear c6
       try clear c6b0
       try clear c7
       try clear c7b0
       try clear hx123_0
       try clear p123
       try clear p2
       try clear q123
       obtain ⟨x5_2, x21_2, rfl, HA, HK2, HO_5, HB⟩ := hrel
       cases gk with
       | zero => exact absurd HA.out (by simp [impl_turnStep.l1])
       | succ k2 =>
        have H := HA.out
        clear HA
        simp only [impl_turnStep.l1] at H
        by_cases c8 : x21_2 < (l1.length : Int)
        ·rw [if_pos c8] at H
         have c8b0 : decide (x21_2 < (l1.length : Int)) = true := decide_eq_true c8
         clear c8
         by_cases c9 : 0 ≤ x21_2
         ·rw [if_pos c9] at H
          have c9b0 : decide (0 ≤ x21_2) = true := decide_eq_true c9
          clear c9
          by_cases c10 : x21_2 < (l1.length : Int)
          ·rw [if_pos c10] at H
           have c10b0 : decide (x21_2 < (l1.length : Int)) = true := decide_eq_true c10
           clear c10
           by_cases c11 : 0 ≤ x14_1
           ·rw [if_pos c11] at H
            have c11b0 : decide (0 ≤ x14_1) = true := decide_eq_true c11
            clear c11
            by_cases c12 : x14_1 < (l0.length : Int)
            ·rw [if_pos c12] at H
             have c12b0 : decide (x14_1 < (l0.length : Int)) = true := decide_eq_true c12
             clear c12
             have c13b0 := eq_true (of_decide_eq_true (by first|(with_reducible assumption)|assumption) : 0 ≤ x21_2)
             obtain ⟨ji14, hji14⟩ : ∃ j_ : Int, (shr .i64 (rd l0 x14_1) x21_2) = j_ := ⟨_, rfl⟩
             replace H : (if (Go.bits .and .i64 (ji14) 1) = 1 then (if (rd l1 x21_2) = (Int.tmod (wrap64 ((rd l1 x14_1) + 1)) 3) then (if x14_1 < (x5_2.length : Int) then (impl_turnStep.l1 k2 l0 l1 (x5_2.set (x14_1 : Int).toNat (rd l1 x21_2)) x14_1 (rd l1 x14_1) l1 (l1.length : Int) x14_1 l1 (l1.length : Int) (wrap64 (x21_2 + 1))) else (none)) else (impl_turnStep.l1 k2 l0 l1 x5_2 x14_1 (rd l1 x14_1) l1 (l1.length : Int) x14_1 l1 (l1.length : Int) (wrap64 (x21_2 + 1)))) else (impl_turnStep.l1 k2 l0 l1 x5_2 x14_1 (rd l1 x14_1) l1 (l1.length : Int) x14_1 l1 (l1.length : Int) (wrap64 (x21_2 + 1)))) = some r := by first|(rw [hji14] at H; exact H)|(simp only [hji14] at H ⊢; exact H)
             have hji14_ : ((rd l0 x14_1) / 2 ^ min x21_2.toNat 64) = ji14 := hji14
             have hji14z : x21_2 ≤ 64 → ((rd l0 x14_1) / 2 ^ x21_2.toNat) = ji14 := shr_small hji14
             by_cases c15 : (Go.bits .and .i64 (ji14) 1) = 1
             ·rw [if_pos c15] at H
              have c15b0 : ((Go.bits .and .i64 (ji14) 1) == 1) = true := beq_iff_eq.mpr c15
              have c15b1 : ((Go.bits .and .i64 (ji14) 1) != 1) = false := bne_eq_false_iff_eq.mpr c15
              clear c15
              by_cases c16 : (rd l1 x21_2) = (Int.tmod (wrap64 ((rd l1 x14_1) + 1)) 3)
              ·rw [if_pos c16] at H
               have c16b0 : ((rd l1 x21_2) == (Int.tmod (wrap64 ((rd l1 x14_1) + 1)) 3)) = true := beq_iff_eq.mpr c16
               have c16b1 : ((rd l1 x21_2) != (Int.tmod (wrap64 ((rd l1 x14_1) + 1)) 3)) = false := bne_eq_false_iff_eq.mpr c16
               clear c16
               by_cases c17 : x14_1 < (x5_2.length : Int)
               ·rw [if_pos c17] at H
                have c17b0 : decide (x14_1 < (x5_2.length : Int)) = true := decide_eq_true c17
                clear c17
                obtain ⟨y126, hy126⟩ : ∃ y_ : List Int, y_ = (x5_2.set (x14_1 : Int).toNat (rd l1 x21_2)) := ⟨_, rfl⟩
                replace H : (impl_turnStep.l1 k2 l0 l1 y126 x14_1 (rd l1 x14_1) l1 (l1.length : Int) x14_1 l1 (l1.length : Int) (wrap64 (x21_2 + 1))) = some r := by first|(rw [hy126]; with_reducible exact H)|(have H2_ := (Option.bind_some _ _).symm.trans H; rw [hy126]; with_reducible exact H2_)|(have H2_ := (Option.bind_some _ _).symm.trans H; with_reducible exact H2_)|with_reducible exact H|(rw [hy126]; exact H)|exact H
                have Ny126 := Aside0.mk hy126
                clear hy126
                have H' := Aside0.mk H
                clear H
                have p124 : 0 ≤ (x21_2 : Int) := of_decide_eq_true (by first|(with_reducible assumption)|assumption)
                have q124 : x21_2 < (l1.length : Int) := of_decide_eq_true (by first|(with_reducible assumption)|assumption)
                obtain ⟨ad124, e124, hx124_0⟩ := Kd.at_int HR1.out x21_2 p124 q124
                obtain rfl : ad123 = ad124 := (by injection e124)
                replace hx124_0 := (HB.out.cell (World.block_lt_of_cell? w _ hx124_0)).trans hx124_0
                replace p124 := eq_true p124
                replace q124 := eq_true q124
                have p125 : 0 ≤ (x14_1 : Int) := of_decide_eq_true (by first|(with_reducible assumption)|assumption)
                have q125 : x14_1 < (l0.length : Int) := of_decide_eq_true (by first|(with_reducible assumption)|assumption)
                obtain ⟨ad125, e125, hx125_0⟩ := Kd.at_int HR0.out x14_1 p125 q125
                cases e125
                replace hx125_0 := (HB.out.cell (World.block_lt_of_cell? w _ hx125_0)).trans hx125_0
                replace p125 := eq_true p125
                replace q125 := eq_true q125
                have p18 : 0 ≤ (x14_1 : Int) := of_decide_eq_true (by first|(with_reducible assumption)|assumption)
                have q18 : (x14_1 : Int) < ((x5_2.length : Int) : Int) := of_decide_eq_true (by first|(with_reducible assumption)|assumption)
                obtain ⟨go18, co18, eo18, gb18, gl18, cl18, HG18⟩ := Kd.R_form HO_5.out (by omega)
                (first|cases eo18|(injection eo18 with ea_ en_ ec_; (first|subst ea_|(injection ea_ with ea_; subst ea_)); subst ec_; clear en_))
                have GB18 := Aside0.mk gb18
                have GG18 := Aside0.mk HG18
                clear gb18 gl18 HG18
                obtain ⟨hx18_0, hf18_0⟩ := Kd.R_celln 0 HO_5.out (x14_1 : Int) p18 q18
                replace p18 := eq_true p18
                replace q18 := eq_true q18
                have HP19 := Kd.R_putg HO_5.out (x14_1 : Int) (rd l1 x21_2)
                go_wp2_with (first|((with_reducible refine gate_store (t := 3) (p := 44) rfl ?_); refine store_event (t := 3) (p := 44) (v := ?vo_w20) (w1 := (wr.setCell ⟨go18, (x14_1 : Int).toNat, none⟩ (.int .i64 (rd l1 x21_2)))) ?hg ?ho ?hn ?hr ?_; (case ho => rfl); (case hg => rfl); (case hn => rfl); (case hr => first|(go_simp; done)|(go_simp; rfl)); intro w20 hw; have hg : wr.grownBy w20 (some go18) := (by rw [hw]; exact HP19.2); have hp_ : Kd.R (Kd.int .i64) 3 w20 w.heap.size (fun _ => True) (.slice (some ⟨go18, 0, none⟩) x5_2.length co18) y126 := (by rw [hw, Ny126.out]; exact HP19.1); clear HP19; have n0_ := Aside0.mk (hp_); have n1_ := Aside0.mk ((by rw [hw]; exact below_set (HB.out) GB18.out : Below w.heap.size w w20)); clear HO_5; clear HB; have HO_5 := n0_; have HB := n1_; clear n0_ n1_; clear hg hw hp_))
                go_roundg k2
                case measure => have := HK1.out; have := HK2.out; omega
                case rel => exact ⟨(y126), (wrap64 (x21_2 + 1)), (by first|rfl|(simp; done)|(simp [*]; done)), H', ⟨by have := HK1.out; have := HK2.out; omega⟩, ⟨by (with_reducible repeat first|apply rA|apply rN|apply rD); exact HO_5.out⟩, ⟨by repeat (first|(with_reducible first|exact HB.out|apply bA|apply bN|apply bD)|exact HB.out)⟩⟩
               ·rw [if_neg c17] at H
                exact absurd H (by simp)
              ·rw [if_neg c16] at H
               have c16b0 : ((rd l1 x21_2) == (Int.tmod (wrap64 ((rd l1 x14_1) + 1)) 3)) = false := beq_eq_false_iff_ne.mpr c16
               have c16b1 : ((rd l1 x21_2) != (Int.tmod (wrap64 ((rd l1 x14_1) + 1)) 3)) = true := bne_iff_ne.mpr c16
               have H' := Aside0.mk H
               clear H
               have p124 : 0 ≤ (x21_2 : Int) := of_decide_eq_true (by first|(with_reducible assumption)|assumption)
               have q124 : x21_2 < (l1.length : Int) := of_decide_eq_true (by first|(with_reducible assumption)|assumption)
               obtain ⟨ad124, e124, hx124_0⟩ := Kd.at_int HR1.out x21_2 p124 q124
               obtain rfl : ad123 = ad124 := (by injection e124)
               replace hx124_0 := (HB.out.cell (World.block_lt_of_cell? w _ hx124_0)).trans hx124_0
               replace p124 := eq_true p124
               replace q124 := eq_true q124
               have p125 : 0 ≤ (x14_1 : Int) := of_decide_eq_true (by first|(with_reducible assumption)|assumption)
               have q125 : x14_1 < (l0.length : Int) := of_decide_eq_true (by first|(with_reducible assumption)|assumption)
               obtain ⟨ad125, e125, hx125_0⟩ := Kd.at_int HR0.out x14_1 p125 q125
               cases e125
               replace hx125_0 := (HB.out.cell (World.block_lt_of_cell? w _ hx125_0)).trans hx125_0
               replace p125 := eq_true p125
               replace q125 := eq_true q125
               go_wp2
               go_roundg k2
               case measure => have := HK1.out; have := HK2.out; omega
               case rel => exact ⟨(x5_2), (wrap64 (x21_2 + 1)), (by first|rfl|(simp; done)|(simp [*]; done)), H', ⟨by have := HK1.out; have := HK2.out; omega⟩, ⟨by (with_reducible repeat first|apply rA|apply rN|apply rD); exact HO_5.out⟩, ⟨by repeat (first|(with_reducible first|exact HB.out|apply bA|apply bN|apply bD)|exact HB.out)⟩⟩
             ·rw [if_neg c15] at H
              have c15b0 : ((Go.bits .and .i64 (ji14) 1) == 1) = false := beq_eq_false_iff_ne.mpr c15
              have c15b1 : ((Go.bits .and .i64 (ji14) 1) != 1) = true := bne_iff_ne.mpr c15
              have H' := Aside0.mk H
              clear H
              have p124 : 0 ≤ (x21_2 : Int) := of_decide_eq_true (by first|(with_reducible assumption)|assumption)
              have q124 : x21_2 < (l1.length : Int) := of_decide_eq_true (by first|(with_reducible assumption)|assumption)
              obtain ⟨ad124, e124, hx124_0⟩ := Kd.at_int HR1.out x21_2 p124 q124
              obtain rfl : ad123 = ad124 := (by injection e124)
              replace hx124_0 := (HB.out.cell (World.block_lt_of_cell? w _ hx124_0)).trans hx124_0
              replace p124 := eq_true p124
              replace q124 := eq_true q124
              have p125 : 0 ≤ (x14_1 : Int) := of_decide_eq_true (by first|(with_reducible assumption)|assumption)
              have q125 : x14_1 < (l0.length : Int) := of_decide_eq_true (by first|(with_reducible assumption)|assumption)
              obtain ⟨ad125, e125, hx125_0⟩ := Kd.at_int HR0.out x14_1 p125 q125
              cases e125
              replace hx125_0 := (HB.out.cell (World.block_lt_of_cell? w _ hx125_0)).trans hx125_0
              replace p125 := eq_true p125
              replace q125 := eq_true q125
              go_wp2
              go_roundg k2
              case measure => have := HK1.out; have := HK2.out; omega
              case rel => exact ⟨(x5_2), (wrap64 (x21_2 + 1)), (by first|rfl|(simp; done)|(simp [*]; done)), H', ⟨by have := HK1.out; have := HK2.out; omega⟩, ⟨by (with_reducible repeat first|apply rA|apply rN|apply rD); exact HO_5.out⟩, ⟨by repeat (first|(with_reducible first|exact HB.out|apply bA|apply bN|apply bD)|exact HB.out)⟩⟩
            ·rw [if_neg c12] at H
             exact absurd H (by simp)
           ·rw [if_neg c11] at H
            exact absurd H (by simp)
          ·rw [if_neg c10] at H
           exact absurd H (by simp)
         ·rw [if_neg c9] at H
          exact absurd H (by simp)
        ·rw [if_neg c8] at H
         have c8b0 : decide (x21_2 < (l1.length : Int)) = false := decide_eq_false c8
         clear c8
         have H' := Aside0.mk H
         clear H
         go_wp2
         go_roundg k2
         case measure => have := HK1.out; have := HK2.out; omega
         case rel => exact ⟨(x5_2), (wrap64 (x14_1 + 1)), (by first|rfl|(simp; done)|(simp [*]; done)), H', ⟨by have := HK1.out; have := HK2.out; omega⟩, ⟨by (with_reducible repeat first|apply rA|apply rN|apply rD); exact HO_5.out⟩, ⟨by repeat (first|(with_reducible first|exact HB.out|apply bA|apply bN|apply bD)|exact HB.out)⟩⟩
     ·rw [if_neg c7] at H
      exact absurd H (by simp)
    ·rw [if_neg c6] at H
     exact absurd H (by simp)
   ·rw [if_neg c5] at H
    have c5b0 : decide (x14_1 < (l1.length : Int)) = false := decide_eq_false c5
    clear c5
    obtain rfl := Option.some.inj H
    go_wp2
    go_ret
    exact ⟨_, by first|rfl|(simp [errW_none, errW_some] <;> rfl)|(simp [*, errW_none, errW_some] <;> rfl), by (with_reducible repeat first|apply rA|apply rN|apply rD); exact HO_5.out, by repeat (first|(with_reducible first|exact HB.out|apply bA|apply bN|apply bD)|exact HB.out)⟩

/-! ### impl_NumberOf: function 74 -/
def impl_NumberOf.l0 : Nat → Int → List Int → Int → Int → Option (Int)
 | 0, _, _, _, _ => none
 | k + 1, x0, x1, x5, x6 => if x6 ≥ 0 then (if 0 ≤ x6 then (if x6 < (x1.length : Int) then (impl_NumberOf.l0 k x0 x1 (wrap64 ((wrap64 (x5 * x0)) + (rd x1 x6))) (wrap64 (x6 - 1))) else (none)) else (none)) else (some x5)
def impl_NumberOf.f (k : Nat) (a0 : Int) (l1 : List Int) : Option (Int) := (impl_StateOk.f k a0 l1).bind fun t127 => (if t127 = true then (impl_NumberOf.l0 k a0 l1 0 (wrap64 ((l1.length : Int) - 1))) else (some (-1)))
theorem impl_NumberOf.mono_l : ∀ k, (∀ y0 y1 y2 y3, LeO (impl_NumberOf.l0 k y0 y1 y2 y3) (impl_NumberOf.l0 (k + 1) y0 y1 y2 y3))
 | 0 => fun _ _ _ _ r h => by simp [impl_NumberOf.l0] at h
 | k + 1 => by
  have ih0 := impl_NumberOf.mono_l k
  ·intro y0 y1 y2 y3
   unfold impl_NumberOf.l0
   repeat' first|(with_reducible first|exact ih0 _ _ _ _|exact impl_StateOk.mono _ _ _|exact LeO.refl _|exact LeO.none _|refine LeO.ite ?_ ?_|refine LeO.bind ?_ (fun _ => ?_))|exact ih0 _ _ _ _|exact impl_StateOk.mono _ _ _|exact LeO.none _|refine LeO.ite ?_ ?_|refine LeO.bind ?_ (fun _ => ?_)
theorem impl_NumberOf.mono : ∀ a0 a1 k, LeO (impl_NumberOf.f k a0 a1) (impl_NumberOf.f (k + 1) a0 a1) := by
 intro a0 a1 k
 have ih0 := impl_NumberOf.mono_l k
 unfold impl_NumberOf.f
 repeat' first|(with_reducible first|exact ih0 _ _ _ _|exact impl_StateOk.mono _ _ _|exact LeO.refl _|exact LeO.none _|refine LeO.ite ?_ ?_|refine LeO.bind ?_ (fun _ => ?_))|exact ih0 _ _ _ _|exact impl_StateOk.mono _ _ _|exact LeO.none _|refine LeO.ite ?_ ?_|refine LeO.bind ?_ (fun _ => ?_)
set_option maxHeartbeats 8000000 in
set_option maxRecDepth 100000 in
theorem impl_NumberOf.calls (k : Nat) (a0 : Int) (A1 : Option Addr) (c1 : Nat) (l1 : List Int) (r : Int) (w : World) (hr1 : Kd.C (Kd.int .i64) w A1 l1.length l1) (hc1 : l1.length ≤ c1) (h : impl_NumberOf.f k a0 l1 = some r) :
  Calls Try.prog 74 #[.int .i64 a0, .slice A1 l1.length c1] w fun e w' => e = .returned (.int .i64 r) ∧ Drawn0 w w' := by
 have HR1 := Aside0.mk hr1
 have HC1 := Aside0.mk hc1
 clear hr1 hc1
 have H : ((impl_StateOk.f k a0 l1).bind fun t127 => (if t127 = true then (impl_NumberOf.l0 k a0 l1 0 (wrap64 ((l1.length : Int) - 1))) else (some (-1)))) = some r := h
 clear h
 replace H := Option.bind_eq_some_iff.mp H
 obtain ⟨t127, A30, H⟩ := H
 replace H : (if t127 = true then (impl_NumberOf.l0 k a0 l1 0 (wrap64 ((l1.length : Int) - 1))) else (some (-1))) = some r := H
 have A3 := Aside0.mk A30
 clear A30
 by_cases c4 : t127 = true
 ·subst c4
  have H1 : (impl_NumberOf.l0 k a0 l1 0 (wrap64 ((l1.length : Int) - 1))) = some r := by rw [if_pos rfl] at H; exact H
  clear H
  have H := H1
  clear H1
  have H' := Aside0.mk H
  clear H
  go_enter Try.func74, Try.ntmps74
  go_wp2_with (first|((with_reducible refine gate_callee (f := 67) rfl ?_); refine goesL_ (some 9) rfl rfl Try.func67 (by kernel_rfl) rfl #[.int .i64 a0, .slice A1 l1.length c1] rfl (by (try simp only [List.map_toArray, List.map_cons, List.map_nil]); first|done|rfl|(simp only [List.length_drop, List.length_take]; rfl)) ?_; (with_reducible refine (impl_StateOk.calls k a0 _ _ l1 true _ ?side1 ?side2 A3.out).mono ?_); (case side1 => repeat (first|exact HR1.out|(with_reducible first|refine cA ?_ _|refine cN ?_ _|refine cD ?_))); (case side2 => exact HC1.out); rintro e w' ⟨rfl, ⟨nd, rfl⟩⟩; refine ⟨_, rfl, ?_⟩))
  go_loopg [5, 6] k (fun kq v5 v6 w' => ∃ (x5_1 : Int) (x6_1 : Int), v5 = .int .i64 x5_1 ∧ v6 = .int .i64 x6_1 ∧ Aside0 (impl_NumberOf.l0 kq a0 l1 x5_1 x6_1 = some r) ∧ Aside0 (kq ≤ k) ∧ Drawn0 w w')
  case atStart => exact ⟨(0), (wrap64 ((l1.length : Int) - 1)), (by first|rfl|(simp; done)|(simp [*]; done)), (by first|rfl|(simp; done)|(simp [*]; done)), H', ⟨Nat.le_refl _⟩, by repeat (first|exact Drawn0.refl _|apply Drawn0.step)⟩
  case round =>
   clear H'
   try clear c1
   try clear p2
   try clear c4
   obtain ⟨x5_1, x6_1, rfl, rfl, HA, HK1, ⟨m1, rfl⟩⟩ := hrel
   cases gk with
   | zero => exact absurd HA.out (by simp [impl_NumberOf.l0])
   | succ k1 =>
    have H := HA.out
    clear HA
    simp only [impl_NumberOf.l0] at H
    by_cases c5 : x6_1 ≥ 0
    ·rw [if_pos c5] at H
     have c5b0 : decide (0 ≤ x6_1) = true := decide_eq_true c5
     clear c5
     by_cases c6 : 0 ≤ x6_1
     ·rw [if_pos c6] at H
      have c6b0 : decide (0 ≤ x6_1) = true := decide_eq_true c6
      clear c6
      by_cases c7 : x6_1 < (l1.length : Int)
      ·rw [if_pos c7] at H
       have c7b0 : decide (x6_1 < (l1.length : Int)) = true := decide_eq_true c7
       clear c7
       have H' := Aside0.mk H
       clear H
       have p128 : 0 ≤ (x6_1 : Int) := of_decide_eq_true (by first|(with_reducible assumption)|assumption)
       have q128 : x6_1 < (l1.length : Int) := of_decide_eq_true (by first|(with_reducible assumption)|assumption)
       obtain ⟨ad128, e128, hx128_0⟩ := Kd.at_int HR1.out x6_1 p128 q128
       cases e128
       replace p128 := eq_true p128
       replace q128 := eq_true q128
       go_wp2
       go_roundg k1
       case measure => have := HK1.out; omega
       case rel => exact ⟨(wrap64 ((wrap64 (x5_1 * a0)) + (rd l1 x6_1))), (wrap64 (x6_1 - 1)), (by first|rfl|(simp; done)|(simp [*]; done)), (by first|rfl|(simp; done)|(simp [*]; done)), H', ⟨by have := HK1.out; omega⟩, by repeat (first|exact Drawn0.refl _|apply Drawn0.step)⟩
      ·rw [if_neg c7] at H
       exact absurd H (by simp)
     ·rw [if_neg c6] at H
      exact absurd H (by simp)
    ·rw [if_neg c5] at H
     have c5b0 : decide (0 ≤ x6_1) = false := decide_eq_false c5
     clear c5
     obtain rfl := Option.some.inj H
     go_wp2
     go_ret
     exact ⟨by first|rfl|(simp; done)|(simp [*]; done), by repeat (first|exact Drawn0.refl _|apply Drawn0.step)⟩
 ·replace c4 := Bool.eq_false_iff.mpr c4
  subst c4
  have H1 : (some (-1)) = some r := by rw [if_neg (show ¬ (false = true) by decide)] at H; exact H
  clear H
  have H := H1
  clear H1
  obtain rfl := Option.some.inj H
  go_enter Try.func74, Try.ntmps74
  go_wp2_with (first|((with_reducible refine gate_callee (f := 67) rfl ?_); refine goesL_ (some 9) rfl rfl Try.func67 (by kernel_rfl) rfl #[.int .i64 a0, .slice A1 l1.length c1] rfl (by (try simp only [List.map_toArray, List.map_cons, List.map_nil]); first|done|rfl|(simp only [List.length_drop, List.length_take]; rfl)) ?_; (with_reducible refine (impl_StateOk.calls k a0 _ _ l1 false _ ?side1 ?side2 A3.out).mono ?_); (case side1 => repeat (first|exact HR1.out|(with_reducible first|refine cA ?_ _|refine cN ?_ _|refine cD ?_))); (case side2 => exact HC1.out); rintro e w' ⟨rfl, ⟨nd, rfl⟩⟩; refine ⟨_, rfl, ?_⟩))
  go_ret
  exact ⟨by first|rfl|(simp; done)|(simp [*]; done), by repeat (first|exact Drawn0.refl _|apply Drawn0.step)⟩

/-! ### impl_TurnLoop: function 21 -/
set_option maxHeartbeats 8000000 in
set_option maxRecDepth 100000 in
theorem impl_TurnLoop.step_calls (k : Nat) (B : Nat) (A0 : Option Addr) (c0 : Nat) (l0 : List Int) (A1 : Option Addr) (c1 : Nat) (l1 : List Int) (r : List Int) (w : World) (hB : w.cell? ⟨B, 0, none⟩ = some (.slice A0 l0.length c0)) (hr0 : Kd.C (Kd.int .i64) w A0 l0.length l0) (hc0 : l0.length ≤ c0) (hr1 : Kd.C (Kd.int .i64) w A1 l1.length l1) (hc1 : l1.length ≤ c1) (h : impl_turnStep.f k l0 l1 = some r) :
  Calls Try.prog 63 #[.slice A1 l1.length c1, .pointer (some ⟨B, 0, none⟩)] w fun e w' => ∃ v0_ : Value, e = .returned (v0_) ∧ Kd.R (Kd.int .i64) 3 w' w.heap.size (fun _ => True) v0_ r ∧ Below w.heap.size w w' := by
 have HR0 := Aside0.mk hr0
 have HC0 := Aside0.mk hc0
 clear hr0 hc0
 have HR1 := Aside0.mk hr1
 have HC1 := Aside0.mk hc1
 clear hr1 hc1
 have H := Aside0.mk h
 clear h
 go_enter Try.func63, Try.ntmps63
 go_wp2_with (go_at_call 64; (with_reducible refine (impl_turnStep.calls k A0 c0 l0 A1 c1 l1 r w HR0.out HC0.out HR1.out HC1.out H.out).mono ?_); rintro e w' ⟨v0, rfl, ho, hb⟩; have HO := Aside0.mk ho; have HB := Aside0.mk hb; clear ho hb)
 go_ret
 exact ⟨_, rfl, HO.out, HB.out⟩



/-- Where a number stands among those seen (the last one seen first). -/
def impl_TurnLoop.idxR : List Int → Int → Option Nat
 | [], _ => none
 | y :: l, x => if x = y then some l.length else impl_TurnLoop.idxR l x
def impl_TurnLoop.seenD {H : Type} : List Int → DataW H
 | [] => .map []
 | y :: l => (impl_TurnLoop.seenD l).put (.int .i64 y) (.lit (.int .i64 (l.length : Int)))
theorem impl_TurnLoop.seenD_map {H : Type} : ∀ l : List Int, Maps.IsMap (impl_TurnLoop.seenD (H := H) l)
 | [] => ⟨[], rfl⟩
 | _ :: l => (impl_TurnLoop.seenD_map l).put _ _
theorem impl_TurnLoop.seenD_has {H : Type} (x : Int) : ∀ l : List Int, Maps.has (impl_TurnLoop.seenD (H := H) l) (.int .i64 x) = (impl_TurnLoop.idxR l x).isSome
 | [] => rfl
 | y :: l => by
  unfold impl_TurnLoop.seenD impl_TurnLoop.idxR
  by_cases e : x = y
  ·subst e; rw [if_pos rfl, Maps.has_put_same (impl_TurnLoop.seenD_map l) (by simp [WideAt.IsKeyLit])]; rfl
  ·rw [if_neg e, Maps.has_put_other (by intro h; injection h with _ h; exact e (by omega)), impl_TurnLoop.seenD_has x l]
theorem impl_TurnLoop.seenD_at {H : Type} (x : Int) : ∀ l : List Int, (impl_TurnLoop.seenD (H := H) l).atKey (.int .i64 x) (.lit (.int .i64 0)) = .lit (.int .i64 (((impl_TurnLoop.idxR l x).getD 0 : Nat) : Int))
 | [] => rfl
 | y :: l => by
  unfold impl_TurnLoop.seenD impl_TurnLoop.idxR
  by_cases e : x = y
  ·subst e; rw [if_pos rfl, Maps.atKey_put_same (impl_TurnLoop.seenD_map l) (by simp [WideAt.IsKeyLit])]; rfl
  ·rw [if_neg e, Maps.atKey_put_other (by intro h; injection h with _ h; exact e (by omega)), impl_TurnLoop.seenD_at x l]
def impl_TurnLoop.l0 : Nat → List Int → List Int → List Int → Option (Int × Int)
 | 0, _, _, _ => none
 | k + 1, x0, x1, x2 => (impl_NumberOf.f k 3 x1).bind fun t => if (Lit.int .i64 t).wf = true then (match impl_TurnLoop.idxR x2 t with
   | some i => some ((i : Int), wrap64 ((x2.length : Int) - (i : Int)))
   | none => if x2.length < 1000000 then (impl_turnStep.f k x0 x1).bind fun y => impl_TurnLoop.l0 k x0 y (t :: x2) else none) else none


theorem impl_TurnLoop.C_mapped {w w1 : World} {A : Option Addr} {n g : Nat} {xs : List Int} (h : Kd.C (Kd.int .i64) w A n xs) (hg : w.grownBy w1 (some g)) (hm : ∃ es c, w.heap[g]? = some (.map es c)) : Kd.C (Kd.int .i64) w1 A n xs := by
 refine ⟨h.1, h.2.1, fun hn => ?_⟩
 obtain ⟨ad, e, hc⟩ := h.2.2 hn
 refine ⟨ad, e, fun j p hj => ?_⟩
 obtain ⟨c, hs, hr, hcell⟩ := hc j p hj
 refine ⟨c, hs, hr, fun i u hu => ?_⟩
 have h1 := hcell i u hu
 refine World.grownBy.cell hg h1 ?_
 intro e2
 obtain ⟨es, cl, hmm⟩ := hm
 unfold World.cell? at h1
 rw [Option.some.inj e2, hmm] at h1
 simp at h1
theorem impl_TurnLoop.ownsMap_block {H : Type} {w : World} {P : Program} {k : TypeId} {R : Value → Option (DataW H × List MemPlace)} {b n : Nat} {D : DataW H} (h : w.ownsMap P k R b n D) : ∃ es c, w.heap[b]? = some (.map es c) := by
 obtain ⟨es, c, hb, _⟩ := h
 exact ⟨es, c, hb⟩
theorem impl_TurnLoop.ownsMap_drewN {H : Type} {w : World} {P : Program} {k : TypeId} {R : Value → Option (DataW H × List MemPlace)} {b n m : Nat} {D : DataW H} (h : w.ownsMap P k R b n D) : (w.drewN m).ownsMap P k R b n D := h
theorem impl_TurnLoop.ownsMap_below {H : Type} {w w1 : World} {P : Program} {k : TypeId} {R : Value → Option (DataW H × List MemPlace)} {b n : Nat} {D : DataW H} (h : w.ownsMap P k R b n D) (hb : Below w.heap.size w w1) : w1.ownsMap P k R b n D := by
 have hlt := h.lt
 obtain ⟨es, clock, hb', F, hs, hD⟩ := h
 exact ⟨es, clock, (hb.block b hlt).trans hb', F, hs, hD⟩
theorem impl_TurnLoop.law_int : Maps.Keyed Try.prog 3 := Maps.int_keyed Try.underlying3
theorem impl_TurnLoop.zero_int (w : World) : (zeroValue 3).run Try.prog w = .ok (.int .i64 0) w := by kernel_rfl
set_option maxHeartbeats 8000000 in
set_option maxRecDepth 100000 in
theorem impl_TurnLoop.loop_calls (k : Nat) (B : Nat) (A0 : Option Addr) (c0 : Nat) (l0 : List Int) (A1 : Option Addr) (c1 : Nat) (l1 : List Int) (r1 r2 : Int) (w : World) (hB : w.cell? ⟨B, 0, none⟩ = some (.slice A0 l0.length c0)) (hr0 : Kd.C (Kd.int .i64) w A0 l0.length l0) (hc0 : l0.length ≤ c0) (hr1 : Kd.C (Kd.int .i64) w A1 l1.length l1) (hc1 : l1.length ≤ c1) (h : impl_TurnLoop.l0 k l0 l1 [] = some (r1, r2)) :
  Calls Try.prog 62 #[.int .i64 3, .slice A1 l1.length c1, .func (.func 63) #[] #[.pointer (some ⟨B, 0, none⟩)]] w fun e w' => e = .returned (.tuple #[.int .i64 r1, .int .i64 r2]) ∧ Below w.heap.size w w' := by
 have hlt : B < w.heap.size := by
  unfold World.cell? at hB
  cases hx : w.heap[B]? with
  | none => rw [hx] at hB; simp at hB
  | some o => exact (Array.getElem?_eq_some_iff.1 hx).1
 have HBv := Aside0.mk hB
 have HLT := Aside0.mk hlt
 clear hlt
 clear hB
 have HR0 := Aside0.mk hr0
 have HC0 := Aside0.mk hc0
 clear hr0 hc0
 have HR1 := Aside0.mk hr1
 have HC1 := Aside0.mk hc1
 clear hr1 hc1
 have H' := Aside0.mk h
 clear h
 have hmm := @run_makeMap Try.prog
 go_enter Try.func62, Try.ntmps62
 go_wp2
 go_loopg [1, 9] k (fun kq v1 v9 w' => ∃ (st seen : List Int) (A : Option Addr) (c : Nat), v1 = .slice A st.length c ∧ v9 = .int .i64 (seen.length : Int) ∧ Aside0 (impl_TurnLoop.l0 kq l0 st seen = some (r1, r2)) ∧ Aside0 (kq ≤ k) ∧ Aside0 (Kd.C (Kd.int .i64) w' A st.length st) ∧ Aside0 (st.length ≤ c) ∧ Aside0 (w'.ownsMap Try.prog 3 (plainElem (H := Unit) Try.prog 3) w.heap.size seen.length (impl_TurnLoop.seenD seen)) ∧ Aside0 (Below w.heap.size w w'))
 case atStart => exact ⟨l1, [], A1, c1, rfl, rfl, H', ⟨Nat.le_refl _⟩, ⟨Kd.C_alloc HR1.out _⟩, HC1, ⟨World.ownsMap_made _ _ _ _⟩, ⟨(Below.refl _ _).alloc (Nat.le_refl _) _⟩⟩
 case round =>
  clear H'
  obtain ⟨st, seen, A, c, rfl, rfl, HA, HK, HS, HC, HM, HB⟩ := hrel
  cases gk with
  | zero => exact absurd HA.out (by simp [impl_TurnLoop.l0])
  | succ k2 =>
   have H := HA.out
   clear HA
   simp only [impl_TurnLoop.l0] at H
   replace H := Option.bind_eq_some_iff.mp H
   obtain ⟨t, hN, H⟩ := H
   by_cases hwf : (Lit.int .i64 t).wf = true
   ·rw [if_pos hwf] at H
    have hkey : keyOf Try.prog 3 (.int .i64 t) = some (.int .i64 t) := Maps.keyOf_int_mk Try.underlying3 hwf
    have HKEY := Aside0.mk hkey
    clear hkey
    have HN := Aside0.mk hN
    have HWF := Aside0.mk hwf
    clear hN hwf
    have hhas := impl_TurnLoop.seenD_has (H := Unit) t seen
    have hat0 := impl_TurnLoop.seenD_at (H := Unit) t seen
    have HAT := Aside0.mk hat0
    clear hat0
    cases hi : impl_TurnLoop.idxR seen t with
    | some i =>
     rw [hi] at H hhas
     obtain ⟨rfl, rfl⟩ : (i : Int) = r1 ∧ wrap64 ((seen.length : Int) - i) = r2 := by simpa using H
     clear H
     go_wp2_with (first|(go_at_call 74; (with_reducible refine (impl_NumberOf.calls k2 3 A c st t _ HS.out HC.out HN.out).mono ?_); rintro e w2 ⟨rfl, ⟨nd, rfl⟩⟩)|(at_lookup; refine wpList_lookup_own_ok_int _ rfl _ _ 73 rfl 3 3 .i64 impl_TurnLoop.law_int Try.underlying73 Try.underlying3 (impl_TurnLoop.zero_int _) w.heap.size seen.length (impl_TurnLoop.seenD seen) rfl (impl_TurnLoop.ownsMap_drewN HM.out) _ _ rfl HKEY.out ?_; intro cv hat hwc; have HV := Aside0.mk hat; clear hat))
     go_ret2
     have hcv : cv = (i : Int) := by
      have h1 := HV.out
      rw [HAT.out, hi] at h1
      injection h1 with h1
      injection h1 with _ h1
      simpa using h1.symm
     subst hcv
     exact ⟨rfl, pw_below_drewN HB.out nd⟩
    | none =>
     rw [hi] at H hhas
     simp only [Option.isSome_none] at hhas
     by_cases hsz : seen.length < 1000000
     ·simp only [if_pos hsz] at H
      replace H := Option.bind_eq_some_iff.mp H
      obtain ⟨y, hY, H⟩ := H
      have HY := Aside0.mk hY
      clear hY
      have H' := Aside0.mk H
      clear H
      go_wp2_with (first|(go_at_call 74; (with_reducible refine (impl_NumberOf.calls k2 3 A c st t _ HS.out HC.out HN.out).mono ?_); rintro e w2 ⟨rfl, ⟨nd, rfl⟩⟩)|(at_lookup; refine wpList_lookup_own_ok_int _ rfl _ _ 73 rfl 3 3 .i64 impl_TurnLoop.law_int Try.underlying73 Try.underlying3 (impl_TurnLoop.zero_int _) w.heap.size seen.length (impl_TurnLoop.seenD seen) rfl (impl_TurnLoop.ownsMap_drewN HM.out) _ _ rfl HKEY.out ?_; intro cv hat hwc; clear hat)|(at_mapUpdate; refine wpList_mapUpdate_own _ rfl _ _ _ 73 rfl 3 3 impl_TurnLoop.law_int Try.underlying73 _ w.heap.size seen.length (impl_TurnLoop.seenD seen) rfl (impl_TurnLoop.ownsMap_drewN HM.out) (by unfold maxLen; omega) _ _ _ rfl rfl HKEY.out _ [] (plainElem_int Try.underlying3 (by exact WalkArith.wf_i64 (by omega))) ?_; intro w3 hown3 hgrow3; have HO3 := Aside0.mk hown3; have HG3 := Aside0.mk hgrow3; clear hown3 hgrow3; have HB2 := Aside0.mk (pw_below_drewN HB.out nd); have HBv3 := Aside0.mk (World.grownBy.cell HG3.out ((HB2.out.cell HLT.out).trans HBv.out) (fun e_ => absurd (Option.some.inj e_) (Nat.ne_of_lt HLT.out))); have HR03 := Aside0.mk (impl_TurnLoop.C_mapped (Kd.C_below HR0.out HB2.out) HG3.out (impl_TurnLoop.ownsMap_block (impl_TurnLoop.ownsMap_drewN HM.out))); have HS3 := Aside0.mk (impl_TurnLoop.C_mapped (Kd.C_drewN HS.out nd) HG3.out (impl_TurnLoop.ownsMap_block (impl_TurnLoop.ownsMap_drewN HM.out))); have HB3 := Aside0.mk (HB2.out.grown HG3.out HB2.out.size (fun j hj => by cases hj; exact Nat.le_refl _)); clear HG3 HB2)|(go_at_call 63; (with_reducible refine (impl_TurnLoop.step_calls k2 B A0 c0 l0 A c st y _ HBv3.out HR03.out HC0.out HS3.out HC.out HY.out).mono ?_); rintro e w4 ⟨v0, rfl, ho4, hb4⟩; obtain ⟨A4, c4, rfl, hc4, hC4⟩ := Kd.R_reads ho4; have HC4 := Aside0.mk hc4; have HS4 := Aside0.mk hC4; have HM4 := Aside0.mk (impl_TurnLoop.ownsMap_below HO3.out hb4); have HB4 := Aside0.mk (below_step HB3.out hb4); clear ho4 hb4 hc4 hC4))
      go_roundg k2
      case measure => omega
      case rel => exact ⟨y, t :: seen, A4, c4, rfl, by first|rfl|(simp; done), H', ⟨by have := HK.out; omega⟩, HS4, HC4, HM4, HB4⟩
     ·simp only [if_neg hsz] at H
      exact absurd H (by simp)
   ·rw [if_neg hwf] at H
    exact absurd H (by simp)


def impl_TurnLoop.f (k : Nat) (l0 : List Int) (l1 : List Int) : Option (Int × Int) := (impl_asked.f k l0 3 l1).bind fun t => (if t = true then (impl_TurnLoop.l0 k l0 l1 []) else (some (-1, -1)))
set_option maxHeartbeats 8000000 in
set_option maxRecDepth 100000 in
theorem impl_TurnLoop.calls (k : Nat) (A0 : Option Addr) (c0 : Nat) (l0 : List Int) (A1 : Option Addr) (c1 : Nat) (l1 : List Int) (r1 : Int) (r2 : Int) (w : World) (hr0 : Kd.C (Kd.int .i64) w A0 l0.length l0) (hc0 : l0.length ≤ c0) (hr1 : Kd.C (Kd.int .i64) w A1 l1.length l1) (hc1 : l1.length ≤ c1) (h : impl_TurnLoop.f k l0 l1 = some (r1, r2)) :
  Calls Try.prog 21 #[.slice A0 l0.length c0, .slice A1 l1.length c1] w fun e w' => e = .returned (.tuple #[.int .i64 r1, .int .i64 r2]) ∧ Below w.heap.size w w' := by
 have hmf : ∀ (fn : Fn) (first cap : Array Value) (w : World), (Instr.makeFunc fn first cap).run Try.prog w = .ok (.func fn first cap) w := fun _ _ _ _ => rfl
 have HR0 := Aside0.mk (Kd.C_alloc hr0 (.cells #[.slice A0 l0.length c0] 30))
 have HC0 := Aside0.mk hc0
 clear hr0 hc0
 have HR1 := Aside0.mk (Kd.C_alloc hr1 (.cells #[.slice A0 l0.length c0] 30))
 have HC1 := Aside0.mk hc1
 clear hr1 hc1
 have hB2 : (w.alloc (.cells #[.slice A0 l0.length c0] 30)).cell? ⟨w.heap.size, 0, none⟩ = some (.slice A0 l0.length c0) := by
  rw [World.cell?_alloc_at _ _ _ _ rfl]; rfl
 have HB2 : Aside0 (∀ nd, ((w.alloc (.cells #[.slice A0 l0.length c0] 30)).drewN nd).cell? ⟨w.heap.size, 0, none⟩ = some (.slice A0 l0.length c0)) := ⟨fun _ => hB2⟩
 clear hB2
 have HB := Aside0.mk ((Below.refl w.heap.size w).alloc (Nat.le_refl _) (.cells #[.slice A0 l0.length c0] 30))
 unfold impl_TurnLoop.f at h
 replace h := Option.bind_eq_some_iff.mp h
 obtain ⟨t, hA, h⟩ := h
 have HA := Aside0.mk hA
 clear hA
 cases t with
 | true =>
  have H' := Aside0.mk (show impl_TurnLoop.l0 k l0 l1 [] = some (r1, r2) from by simpa using h)
  clear h
  go_enter Try.func21, Try.ntmps21
  go_wp2_with (first|(go_at_call 61; (with_reducible refine (impl_asked.calls k A0 c0 l0 3 A1 c1 l1 true _ HR0.out HC0.out HR1.out HC1.out HA.out).mono ?_); rintro e w2 ⟨rfl, ⟨nd, rfl⟩⟩)|(go_at_call 62; (with_reducible refine (impl_TurnLoop.loop_calls k w.heap.size A0 c0 l0 A1 c1 l1 r1 r2 _ (HB2.out nd) (Kd.C_drewN HR0.out nd) HC0.out (Kd.C_drewN HR1.out nd) HC1.out H'.out).mono ?_); rintro e w3 ⟨rfl, hb3⟩; have HB3 := Aside0.mk (below_step (pw_below_drewN HB.out nd) hb3); clear hb3))
  go_ret2
  exact ⟨rfl, HB3.out⟩
 | false =>
  obtain ⟨rfl, rfl⟩ : (-1 : Int) = r1 ∧ (-1 : Int) = r2 := by simpa using h
  clear h
  go_enter Try.func21, Try.ntmps21
  go_wp2_with (first|(go_at_call 61; (with_reducible refine (impl_asked.calls k A0 c0 l0 3 A1 c1 l1 false _ HR0.out HC0.out HR1.out HC1.out HA.out).mono ?_); rintro e w2 ⟨rfl, ⟨nd, rfl⟩⟩))
  go_ret2
  exact ⟨rfl, pw_below_drewN HB.out nd⟩
theorem impl_TurnLoop.mono_l : ∀ k, (∀ y0 y1 y2, LeO (impl_TurnLoop.l0 k y0 y1 y2) (impl_TurnLoop.l0 (k + 1) y0 y1 y2))
 | 0 => fun _ _ _ r h => by simp [impl_TurnLoop.l0] at h
 | k + 1 => by
  have ih0 := impl_TurnLoop.mono_l k
  intro y0 y1 y2
  unfold impl_TurnLoop.l0
  refine LeO.bind (impl_NumberOf.mono _ _ _) (fun t => LeO.ite ?_ (LeO.none _))
  cases impl_TurnLoop.idxR y2 t with
  | some i => exact LeO.refl _
  | none => exact LeO.ite (LeO.bind (impl_turnStep.mono _ _ _) (fun _ => ih0 _ _ _)) (LeO.none _)
theorem impl_TurnLoop.mono : ∀ a0 a1 k, LeO (impl_TurnLoop.f k a0 a1) (impl_TurnLoop.f (k + 1) a0 a1) := by
 intro a0 a1 k
 have ih0 := impl_TurnLoop.mono_l k
 unfold impl_TurnLoop.f
 exact LeO.bind (impl_asked.mono _ _ _ _) (fun _ => LeO.ite (ih0 _ _ _) (LeO.refl _))

/-! ### impl_StandsAt: function 24 -/
def impl_StandsAt.f (k : Nat) (l0 : List Int) (l1 : List Int) : Option (Int) := (impl_asked.f k l0 3 l1).bind fun t129 => (if t129 = true then ((impl_TurnLoop.f k l0 l1).bind fun bt130 => (if bt130.2 = 1 then (some bt130.1) else (some (-1)))) else (some (-1)))
theorem impl_StandsAt.mono : ∀ a0 a1 k, LeO (impl_StandsAt.f k a0 a1) (impl_StandsAt.f (k + 1) a0 a1) := by
 intro a0 a1 k
 unfold impl_StandsAt.f
 repeat' first|(with_reducible first|exact impl_TurnLoop.mono _ _ _|exact impl_asked.mono _ _ _ _|exact LeO.refl _|exact LeO.none _|refine LeO.ite ?_ ?_|refine LeO.bind ?_ (fun _ => ?_))|exact impl_TurnLoop.mono _ _ _|exact impl_asked.mono _ _ _ _|exact LeO.none _|refine LeO.ite ?_ ?_|refine LeO.bind ?_ (fun _ => ?_)
set_option maxHeartbeats 8000000 in
set_option maxRecDepth 100000 in
theorem impl_StandsAt.calls (k : Nat) (A0 : Option Addr) (c0 : Nat) (l0 : List Int) (A1 : Option Addr) (c1 : Nat) (l1 : List Int) (r : Int) (w : World) (hr0 : Kd.C (Kd.int .i64) w A0 l0.length l0) (hc0 : l0.length ≤ c0) (hr1 : Kd.C (Kd.int .i64) w A1 l1.length l1) (hc1 : l1.length ≤ c1) (h : impl_StandsAt.f k l0 l1 = some r) :
  Calls Try.prog 24 #[.slice A0 l0.length c0, .slice A1 l1.length c1] w fun e w' => e = .returned (.int .i64 r) ∧ Below w.heap.size w w' := by
 have HR0 := Aside0.mk hr0
 have HC0 := Aside0.mk hc0
 clear hr0 hc0
 have HR1 := Aside0.mk hr1
 have HC1 := Aside0.mk hc1
 clear hr1 hc1
 have HB := Aside0.mk (Below.refl w.heap.size w)
 have H : ((impl_asked.f k l0 3 l1).bind fun t129 => (if t129 = true then ((impl_TurnLoop.f k l0 l1).bind fun bt130 => (if bt130.2 = 1 then (some bt130.1) else (some (-1)))) else (some (-1)))) = some r := h
 clear h
 replace H := Option.bind_eq_some_iff.mp H
 obtain ⟨t129, A30, H⟩ := H
 replace H : (if t129 = true then ((impl_TurnLoop.f k l0 l1).bind fun bt130 => (if bt130.2 = 1 then (some bt130.1) else (some (-1)))) else (some (-1))) = some r := H
 have A3 := Aside0.mk A30
 clear A30
 by_cases c4 : t129 = true
 ·subst c4
  have H1 : ((impl_TurnLoop.f k l0 l1).bind fun bt130 => (if bt130.2 = 1 then (some bt130.1) else (some (-1)))) = some r := by rw [if_pos rfl] at H; exact H
  clear H
  have H := H1
  clear H1
  replace H := Option.bind_eq_some_iff.mp H
  obtain ⟨⟨t130, t131⟩, A50, H⟩ := H
  replace H : (if t131 = 1 then (some t130) else (some (-1))) = some r := H
  have A5 := Aside0.mk A50
  clear A50
  by_cases c6 : t131 = 1
  ·rw [if_pos c6] at H
   have c6b0 : (t131 == 1) = true := beq_iff_eq.mpr c6
   have c6b1 : (t131 != 1) = false := bne_eq_false_iff_eq.mpr c6
   clear c6
   obtain rfl := Option.some.inj H
   go_enter Try.func24, Try.ntmps24
   go_wp2_with (first|((with_reducible refine gate_callee (f := 61) rfl ?_); refine goesL_ (some 9) rfl rfl Try.func61 (by kernel_rfl) rfl #[.slice A0 l0.length c0, .int .i64 3, .slice A1 l1.length c1] rfl (by (try simp only [List.map_toArray, List.map_cons, List.map_nil]); first|done|rfl|(simp only [List.length_drop, List.length_take]; rfl)) ?_; (with_reducible refine (impl_asked.calls k _ _ l0 3 _ _ l1 true _ ?side1 ?side2 ?side3 ?side4 A3.out).mono ?_); (case side1 => repeat (first|exact HR0.out|(with_reducible first|refine cA ?_ _|refine cN ?_ _|refine cD ?_))); (case side2 => exact HC0.out); (case side3 => repeat (first|exact HR1.out|(with_reducible first|refine cA ?_ _|refine cN ?_ _|refine cD ?_))); (case side4 => exact HC1.out); rintro e w' ⟨rfl, ⟨nd, rfl⟩⟩; refine ⟨_, rfl, ?_⟩)|((with_reducible refine gate_callee (f := 21) rfl ?_); refine goesL_ (some 14) rfl rfl Try.func21 (by kernel_rfl) rfl #[.slice A0 l0.length c0, .slice A1 l1.length c1] rfl (by (try simp only [List.map_toArray, List.map_cons, List.map_nil]); first|done|rfl|(simp only [List.length_drop, List.length_take]; rfl)) ?_; (with_reducible refine (impl_TurnLoop.calls k _ _ l0 _ _ l1 t130 t131 _ ?side1 ?side2 ?side3 ?side4 A5.out).mono ?_); (case side1 => repeat (first|exact HR0.out|(with_reducible first|refine cA ?_ _|refine cN ?_ _|refine cD ?_))); (case side2 => exact HC0.out); (case side3 => repeat (first|exact HR1.out|(with_reducible first|refine cA ?_ _|refine cN ?_ _|refine cD ?_))); (case side4 => exact HC1.out); rintro e w7 ⟨rfl, hb⟩; refine ⟨_, rfl, ?_⟩; have n0_ := Aside0.mk (below_step (by repeat (first|(with_reducible first|exact HB.out|apply bA|apply bN|apply bD)|exact HB.out)) hb); clear HB; have HB := n0_; clear n0_; (try clear hb); (try clear hb2); (try clear hk); (try clear hi)))
   go_ret
   exact ⟨by first|rfl|(simp [errW_none, errW_some] <;> rfl)|(simp [*, errW_none, errW_some] <;> rfl), by repeat (first|(with_reducible first|exact HB.out|apply bA|apply bN|apply bD)|exact HB.out)⟩
  ·rw [if_neg c6] at H
   have c6b0 : (t131 == 1) = false := beq_eq_false_iff_ne.mpr c6
   have c6b1 : (t131 != 1) = true := bne_iff_ne.mpr c6
   obtain rfl := Option.some.inj H
   go_enter Try.func24, Try.ntmps24
   go_wp2_with (first|((with_reducible refine gate_callee (f := 61) rfl ?_); refine goesL_ (some 9) rfl rfl Try.func61 (by kernel_rfl) rfl #[.slice A0 l0.length c0, .int .i64 3, .slice A1 l1.length c1] rfl (by (try simp only [List.map_toArray, List.map_cons, List.map_nil]); first|done|rfl|(simp only [List.length_drop, List.length_take]; rfl)) ?_; (with_reducible refine (impl_asked.calls k _ _ l0 3 _ _ l1 true _ ?side1 ?side2 ?side3 ?side4 A3.out).mono ?_); (case side1 => repeat (first|exact HR0.out|(with_reducible first|refine cA ?_ _|refine cN ?_ _|refine cD ?_))); (case side2 => exact HC0.out); (case side3 => repeat (first|exact HR1.out|(with_reducible first|refine cA ?_ _|refine cN ?_ _|refine cD ?_))); (case side4 => exact HC1.out); rintro e w' ⟨rfl, ⟨nd, rfl⟩⟩; refine ⟨_, rfl, ?_⟩)|((with_reducible refine gate_callee (f := 21) rfl ?_); refine goesL_ (some 14) rfl rfl Try.func21 (by kernel_rfl) rfl #[.slice A0 l0.length c0, .slice A1 l1.length c1] rfl (by (try simp only [List.map_toArray, List.map_cons, List.map_nil]); first|done|rfl|(simp only [List.length_drop, List.length_take]; rfl)) ?_; (with_reducible refine (impl_TurnLoop.calls k _ _ l0 _ _ l1 t130 t131 _ ?side1 ?side2 ?side3 ?side4 A5.out).mono ?_); (case side1 => repeat (first|exact HR0.out|(with_reducible first|refine cA ?_ _|refine cN ?_ _|refine cD ?_))); (case side2 => exact HC0.out); (case side3 => repeat (first|exact HR1.out|(with_reducible first|refine cA ?_ _|refine cN ?_ _|refine cD ?_))); (case side4 => exact HC1.out); rintro e w8 ⟨rfl, hb⟩; refine ⟨_, rfl, ?_⟩; have n0_ := Aside0.mk (below_step (by repeat (first|(with_reducible first|exact HB.out|apply bA|apply bN|apply bD)|exact HB.out)) hb); clear HB; have HB := n0_; clear n0_; (try clear hb); (try clear hb2); (try clear hk); (try clear hi)))
   go_ret
   exact ⟨by first|rfl|(simp [errW_none, errW_some] <;> rfl)|(simp [*, errW_none, errW_some] <;> rfl), by repeat (first|(with_reducible first|exact HB.out|apply bA|apply bN|apply bD)|exact HB.out)⟩
 ·replace c4 := Bool.eq_false_iff.mpr c4
  subst c4
  have H1 : (some (-1)) = some r := by rw [if_neg (show ¬ (false = true) by decide)] at H; exact H
  clear H
  have H := H1
  clear H1
  obtain rfl := Option.some.inj H
  go_enter Try.func24, Try.ntmps24
  go_wp2_with (first|((with_reducible refine gate_callee (f := 61) rfl ?_); refine goesL_ (some 9) rfl rfl Try.func61 (by kernel_rfl) rfl #[.slice A0 l0.length c0, .int .i64 3, .slice A1 l1.length c1] rfl (by (try simp only [List.map_toArray, List.map_cons, List.map_nil]); first|done|rfl|(simp only [List.length_drop, List.length_take]; rfl)) ?_; (with_reducible refine (impl_asked.calls k _ _ l0 3 _ _ l1 false _ ?side1 ?side2 ?side3 ?side4 A3.out).mono ?_); (case side1 => repeat (first|exact HR0.out|(with_reducible first|refine cA ?_ _|refine cN ?_ _|refine cD ?_))); (case side2 => exact HC0.out); (case side3 => repeat (first|exact HR1.out|(with_reducible first|refine cA ?_ _|refine cN ?_ _|refine cD ?_))); (case side4 => exact HC1.out); rintro e w' ⟨rfl, ⟨nd, rfl⟩⟩; refine ⟨_, rfl, ?_⟩))
  go_ret
  exact ⟨by first|rfl|(simp [errW_none, errW_some] <;> rfl)|(simp [*, errW_none, errW_some] <;> rfl), by repeat (first|(with_reducible first|exact HB.out|apply bA|apply bN|apply bD)|exact HB.out)⟩

/-! ### laws_sameInts: function 28 -/
def laws_sameInts.l0 : Nat → List Int → List Int → Int → Option (Bool)
 | 0, _, _, _ => none
 | k + 1, x0, x1, x5 => if x5 < (x0.length : Int) then (if 0 ≤ x5 then (if x5 < (x1.length : Int) then (if (rd x0 x5) = (rd x1 x5) then (laws_sameInts.l0 k x0 x1 (wrap64 (x5 + 1))) else (some false)) else (none)) else (none)) else (some true)
def laws_sameInts.f (k : Nat) (l0 : List Int) (l1 : List Int) : Option (Bool) := if (l0.length : Int) = (l1.length : Int) then (laws_sameInts.l0 k l0 l1 0) else (some false)
theorem laws_sameInts.mono_l : ∀ k, (∀ y0 y1 y2, LeO (laws_sameInts.l0 k y0 y1 y2) (laws_sameInts.l0 (k + 1) y0 y1 y2))
 | 0 => fun _ _ _ r h => by simp [laws_sameInts.l0] at h
 | k + 1 => by
  have ih0 := laws_sameInts.mono_l k
  ·intro y0 y1 y2
   unfold laws_sameInts.l0
   repeat' first|(with_reducible first|exact ih0 _ _ _|exact LeO.refl _|exact LeO.none _|refine LeO.ite ?_ ?_|refine LeO.bind ?_ (fun _ => ?_))|exact ih0 _ _ _|exact LeO.none _|refine LeO.ite ?_ ?_|refine LeO.bind ?_ (fun _ => ?_)
theorem laws_sameInts.mono : ∀ a0 a1 k, LeO (laws_sameInts.f k a0 a1) (laws_sameInts.f (k + 1) a0 a1) := by
 intro a0 a1 k
 have ih0 := laws_sameInts.mono_l k
 unfold laws_sameInts.f
 repeat' first|(with_reducible first|exact ih0 _ _ _|exact LeO.refl _|exact LeO.none _|refine LeO.ite ?_ ?_|refine LeO.bind ?_ (fun _ => ?_))|exact ih0 _ _ _|exact LeO.none _|refine LeO.ite ?_ ?_|refine LeO.bind ?_ (fun _ => ?_)
set_option maxHeartbeats 8000000 in
set_option maxRecDepth 100000 in
theorem laws_sameInts.calls (k : Nat) (A0 : Option Addr) (c0 : Nat) (l0 : List Int) (A1 : Option Addr) (c1 : Nat) (l1 : List Int) (r : Bool) (w : World) (hr0 : Kd.C (Kd.int .i64) w A0 l0.length l0) (hc0 : l0.length ≤ c0) (hr1 : Kd.C (Kd.int .i64) w A1 l1.length l1) (hc1 : l1.length ≤ c1) (h : laws_sameInts.f k l0 l1 = some r) :
  Calls Try.prog 28 #[.slice A0 l0.length c0, .slice A1 l1.length c1] w fun e w' => e = .returned (.bool r) ∧ Drawn0 w w' := by
 have HR0 := Aside0.mk hr0
 have HC0 := Aside0.mk hc0
 clear hr0 hc0
 have HR1 := Aside0.mk hr1
 have HC1 := Aside0.mk hc1
 clear hr1 hc1
 have H : (if (l0.length : Int) = (l1.length : Int) then (laws_sameInts.l0 k l0 l1 0) else (some false)) = some r := h
 clear h
 by_cases c3 : (l0.length : Int) = (l1.length : Int)
 ·rw [if_pos c3] at H
  have c3b0 : ((l0.length : Int) == (l1.length : Int)) = true := beq_iff_eq.mpr c3
  have c3b1 : ((l0.length : Int) != (l1.length : Int)) = false := bne_eq_false_iff_eq.mpr c3
  have c3b2 : (l0.length == l1.length) = true := by first|simpa using c3|(simp at c3 ⊢; omega)
  clear c3
  have H' := Aside0.mk H
  clear H
  go_enter Try.func28, Try.ntmps28
  go_wp2
  repeat (go_quiet (fail); try go_wp2)
  go_loopg [5] k (fun kq v5 w' => ∃ (x5_1 : Int), v5 = .int .i64 x5_1 ∧ Aside0 (laws_sameInts.l0 kq l0 l1 x5_1 = some r) ∧ Aside0 (kq ≤ k) ∧ Drawn0 w w')
  case atStart => exact ⟨(0), (by first|rfl|(simp; done)|(simp [*]; done)), H', ⟨Nat.le_refl _⟩, by repeat (first|exact Drawn0.refl _|apply Drawn0.step)⟩
  case round =>
   clear H'
   try clear c1
   try clear c2
   try clear p2
   try clear c3
   try clear c3b0
   try clear c3b1
   try clear c3b2
   obtain ⟨x5_1, rfl, HA, HK1, ⟨m1, rfl⟩⟩ := hrel
   cases gk with
   | zero => exact absurd HA.out (by simp [laws_sameInts.l0])
   | succ k1 =>
    have H := HA.out
    clear HA
    simp only [laws_sameInts.l0] at H
    by_cases c4 : x5_1 < (l0.length : Int)
    ·rw [if_pos c4] at H
     have c4b0 : decide (x5_1 < (l0.length : Int)) = true := decide_eq_true c4
     clear c4
     by_cases c5 : 0 ≤ x5_1
     ·rw [if_pos c5] at H
      have c5b0 : decide (0 ≤ x5_1) = true := decide_eq_true c5
      clear c5
      by_cases c6 : x5_1 < (l1.length : Int)
      ·rw [if_pos c6] at H
       have c6b0 : decide (x5_1 < (l1.length : Int)) = true := decide_eq_true c6
       clear c6
       by_cases c7 : (rd l0 x5_1) = (rd l1 x5_1)
       ·rw [if_pos c7] at H
        have c7b0 : ((rd l0 x5_1) == (rd l1 x5_1)) = true := beq_iff_eq.mpr c7
        have c7b1 : ((rd l0 x5_1) != (rd l1 x5_1)) = false := bne_eq_false_iff_eq.mpr c7
        clear c7
        have H' := Aside0.mk H
        clear H
        have p132 : 0 ≤ (x5_1 : Int) := of_decide_eq_true (by first|(with_reducible assumption)|assumption)
        have q132 : x5_1 < (l0.length : Int) := of_decide_eq_true (by first|(with_reducible assumption)|assumption)
        obtain ⟨ad132, e132, hx132_0⟩ := Kd.at_int HR0.out x5_1 p132 q132
        cases e132
        replace p132 := eq_true p132
        replace q132 := eq_true q132
        have p133 : 0 ≤ (x5_1 : Int) := of_decide_eq_true (by first|(with_reducible assumption)|assumption)
        have q133 : x5_1 < (l1.length : Int) := of_decide_eq_true (by first|(with_reducible assumption)|assumption)
        obtain ⟨ad133, e133, hx133_0⟩ := Kd.at_int HR1.out x5_1 p133 q133
        cases e133
        replace p133 := eq_true p133
        replace q133 := eq_true q133
        go_wp2
        repeat (go_quiet (fail); try go_wp2)
        go_roundg k1
        case measure => have := HK1.out; omega
        case rel => exact ⟨(wrap64 (x5_1 + 1)), (by first|rfl|(simp; done)|(simp [*]; done)), H', ⟨by have := HK1.out; omega⟩, by repeat (first|exact Drawn0.refl _|apply Drawn0.step)⟩
       ·rw [if_neg c7] at H
        have c7b0 : ((rd l0 x5_1) == (rd l1 x5_1)) = false := beq_eq_false_iff_ne.mpr c7
        have c7b1 : ((rd l0 x5_1) != (rd l1 x5_1)) = true := bne_iff_ne.mpr c7
        obtain rfl := Option.some.inj H
        have p132 : 0 ≤ (x5_1 : Int) := of_decide_eq_true (by first|(with_reducible assumption)|assumption)
        have q132 : x5_1 < (l0.length : Int) := of_decide_eq_true (by first|(with_reducible assumption)|assumption)
        obtain ⟨ad132, e132, hx132_0⟩ := Kd.at_int HR0.out x5_1 p132 q132
        cases e132
        replace p132 := eq_true p132
        replace q132 := eq_true q132
        have p133 : 0 ≤ (x5_1 : Int) := of_decide_eq_true (by first|(with_reducible assumption)|assumption)
        have q133 : x5_1 < (l1.length : Int) := of_decide_eq_true (by first|(with_reducible assumption)|assumption)
        obtain ⟨ad133, e133, hx133_0⟩ := Kd.at_int HR1.out x5_1 p133 q133
        cases e133
        replace p133 := eq_true p133
        replace q133 := eq_true q133
        go_wp2
        repeat (go_quiet (fail); try go_wp2)
        go_ret
        exact ⟨by first|rfl|(simp; done)|(simp [*]; done), by repeat (first|exact Drawn0.refl _|apply Drawn0.step)⟩
      ·rw [if_neg c6] at H
       exact absurd H (by simp)
     ·rw [if_neg c5] at H
      exact absurd H (by simp)
    ·rw [if_neg c4] at H
     have c4b0 : decide (x5_1 < (l0.length : Int)) = false := decide_eq_false c4
     clear c4
     obtain rfl := Option.some.inj H
     go_wp2
     repeat (go_quiet (fail); try go_wp2)
     go_ret
     exact ⟨by first|rfl|(simp; done)|(simp [*]; done), by repeat (first|exact Drawn0.refl _|apply Drawn0.step)⟩
 ·rw [if_neg c3] at H
  have c3b0 : ((l0.length : Int) == (l1.length : Int)) = false := beq_eq_false_iff_ne.mpr c3
  have c3b1 : ((l0.length : Int) != (l1.length : Int)) = true := bne_iff_ne.mpr c3
  have c3b2 : (l0.length == l1.length) = false := by first|simpa using c3|(simp at c3 ⊢; omega)
  obtain rfl := Option.some.inj H
  go_enter Try.func28, Try.ntmps28
  go_wp2
  repeat (go_quiet (fail); try go_wp2)
  go_ret
  exact ⟨by first|rfl|(simp; done)|(simp [*]; done), by repeat (first|exact Drawn0.refl _|apply Drawn0.step)⟩

end Go.Proofs.Ytbbafjmfdbjkaaa.PFnPeakRow
