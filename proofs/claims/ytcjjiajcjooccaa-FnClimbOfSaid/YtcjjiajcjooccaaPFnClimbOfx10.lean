-- Written by a program of this session (the kit's print, changed).
import Derived.Test.YtcjjiajcjooccaaPFnClimbOfx0
import Derived.Test.YtcjjiajcjooccaaPFnClimbOfx4
import Derived.Test.YtcjjiajcjooccaaPFnClimbOfx6
import Derived.Test.YtcjjiajcjooccaaPFnClimbOfx9
namespace Go.Proofs.Ytcjjiajcjooccaa.PFnClimbOf
open Go.RowKit Go.Proofs.YtcjjiajcjooccaaW.PrintWords Go.Proofs.YtcjjiajcjooccaaW.PrintLast Go.Proofs.YtcjjiajcjooccaaW.PrintMore
attribute [local go_sem] max2_int min2_int max_two min_two max_three min_three max_four min_four   -- for this text's walks alone
set_option linter.unusedVariables false
set_option linter.unusedSimpArgs false

/-! ### laws_FnClimbOf: function 9 -/
mutual
def laws_FnClimbOf.j0 : Nat → List Int → List Int → List Int → Int → Bool → Bool → Option (Bool)
  | 0, _, _, _, _, _, _ => none
  | k + 1, x3, x4, x5, x6, x7, x47 => if x47 = true then (some false) else (if x7 = true then (laws_FnClimbOf.l0 k x3 x4 x5 x6 (([] : List Int)) 0) else (if x6 = 0 then ((laws_alive.f k).bind fun t309 => (some t309)) else (some false)))
def laws_FnClimbOf.l0 : Nat → List Int → List Int → List Int → Int → List Int → Int → Option (Bool)
  | 0, _, _, _, _, _, _ => none
  | k + 1, x3, x4, x5, x6, x10, x11 => if x11 < (x5.length : Int) then (if 0 ≤ x11 then ((some (([rd x5 x11] : List Int) : List Int)).bind fun y314 => (if y314.length + x10.length < 17592186044416 then (laws_FnClimbOf.l0 k x3 x4 x5 x6 (y314 ++ x10) (wrap64 (x11 + 1))) else (none))) else (none)) else ((impl_ClimbOf.f k x3 x4 x10).bind fun bt320 => ((some (([] : List Int) : List Int)).bind fun y322 => (if y322.length + x5.length < 17592186044416 then ((some (y322 ++ x5 : List Int)).bind fun y325 => (if 1 ≤ (x10.length : Int) then ((some (x10.drop 1 : List Int)).bind fun y328 => (if y325.length + y328.length < 17592186044416 then ((impl_ClimbOf.f k x3 x4 (y325 ++ y328)).bind fun bt335 => (if bt320.2 = true then (if bt320.1 = (wrap64 (-x6)) then (if bt335.2 = true then (if bt335.1 = 0 then (if x6 < (x5.length : Int) then (some (decide (x6 > (wrap64 (-(x5.length : Int)))))) else (some false)) else (some false)) else (if x6 < (x5.length : Int) then (some (decide (x6 > (wrap64 (-(x5.length : Int)))))) else (some false))) else (some false)) else (some false))) else (none))) else (none))) else (none))))
end
def laws_FnClimbOf.f (k : Nat) (l0 : List Int) : Option (Bool) := if (l0.length : Int) > 1048576 then (some true) else ((spec_DrawClimbOf.f k l0).bind fun bt296 => ((impl_ClimbOf.f k bt296.1 bt296.2.1 bt296.2.2).bind fun bt305 => ((spec_ClimbOf.f k bt296.1 bt296.2.1 bt296.2.2).bind fun bt307 => (if bt305.1 = bt307.1 then (laws_FnClimbOf.j0 k bt296.1 bt296.2.1 bt296.2.2 bt305.1 bt305.2 (bt305.2 != bt307.2)) else (laws_FnClimbOf.j0 k bt296.1 bt296.2.1 bt296.2.2 bt305.1 bt305.2 true)))))
theorem laws_FnClimbOf.mono_l : ∀ k, (∀ y0 y1 y2 y3 y4 y5, LeO (laws_FnClimbOf.j0 k y0 y1 y2 y3 y4 y5) (laws_FnClimbOf.j0 (k + 1) y0 y1 y2 y3 y4 y5)) ∧ (∀ y0 y1 y2 y3 y4 y5, LeO (laws_FnClimbOf.l0 k y0 y1 y2 y3 y4 y5) (laws_FnClimbOf.l0 (k + 1) y0 y1 y2 y3 y4 y5))
  | 0 => ⟨fun _ _ _ _ _ _ r h => by simp [laws_FnClimbOf.j0] at h, fun _ _ _ _ _ _ r h => by simp [laws_FnClimbOf.l0] at h⟩
  | k + 1 => by
    obtain ⟨ih0, ih1⟩ := laws_FnClimbOf.mono_l k
    refine ⟨?_, ?_⟩
    · intro y0 y1 y2 y3 y4 y5
      unfold laws_FnClimbOf.j0
      repeat' first
      | (with_reducible exact ih0 _ _ _ _ _ _)
      | (with_reducible exact ih1 _ _ _ _ _ _)
      | (with_reducible exact impl_ClimbOf.mono _ _ _ _)
      | (with_reducible exact laws_alive.mono _)
      | (with_reducible exact spec_ClimbOf.mono _ _ _ _)
      | (with_reducible exact spec_DrawClimbOf.mono _ _)
      | (with_reducible exact LeO.refl _)
      | (with_reducible exact LeO.none _)
      | (with_reducible refine LeO.ite ?_ ?_)
      | (with_reducible refine LeO.bind ?_ (fun _ => ?_))
      | exact ih0 _ _ _ _ _ _
      | exact ih1 _ _ _ _ _ _
      | exact impl_ClimbOf.mono _ _ _ _
      | exact laws_alive.mono _
      | exact spec_ClimbOf.mono _ _ _ _
      | exact spec_DrawClimbOf.mono _ _
      | exact LeO.none _
      | refine LeO.ite ?_ ?_
      | refine LeO.bind ?_ (fun _ => ?_)
    · intro y0 y1 y2 y3 y4 y5
      unfold laws_FnClimbOf.l0
      repeat' first
      | (with_reducible exact ih0 _ _ _ _ _ _)
      | (with_reducible exact ih1 _ _ _ _ _ _)
      | (with_reducible exact impl_ClimbOf.mono _ _ _ _)
      | (with_reducible exact laws_alive.mono _)
      | (with_reducible exact spec_ClimbOf.mono _ _ _ _)
      | (with_reducible exact spec_DrawClimbOf.mono _ _)
      | (with_reducible exact LeO.refl _)
      | (with_reducible exact LeO.none _)
      | (with_reducible refine LeO.ite ?_ ?_)
      | (with_reducible refine LeO.bind ?_ (fun _ => ?_))
      | exact ih0 _ _ _ _ _ _
      | exact ih1 _ _ _ _ _ _
      | exact impl_ClimbOf.mono _ _ _ _
      | exact laws_alive.mono _
      | exact spec_ClimbOf.mono _ _ _ _
      | exact spec_DrawClimbOf.mono _ _
      | exact LeO.none _
      | refine LeO.ite ?_ ?_
      | refine LeO.bind ?_ (fun _ => ?_)
theorem laws_FnClimbOf.mono : ∀ a0 k, LeO (laws_FnClimbOf.f k a0) (laws_FnClimbOf.f (k + 1) a0) := by
  intro a0 k
  obtain ⟨ih0, ih1⟩ := laws_FnClimbOf.mono_l k
  unfold laws_FnClimbOf.f
  repeat' first
      | (with_reducible exact ih0 _ _ _ _ _ _)
      | (with_reducible exact ih1 _ _ _ _ _ _)
      | (with_reducible exact impl_ClimbOf.mono _ _ _ _)
      | (with_reducible exact laws_alive.mono _)
      | (with_reducible exact spec_ClimbOf.mono _ _ _ _)
      | (with_reducible exact spec_DrawClimbOf.mono _ _)
      | (with_reducible exact LeO.refl _)
      | (with_reducible exact LeO.none _)
      | (with_reducible refine LeO.ite ?_ ?_)
      | (with_reducible refine LeO.bind ?_ (fun _ => ?_))
      | exact ih0 _ _ _ _ _ _
      | exact ih1 _ _ _ _ _ _
      | exact impl_ClimbOf.mono _ _ _ _
      | exact laws_alive.mono _
      | exact spec_ClimbOf.mono _ _ _ _
      | exact spec_DrawClimbOf.mono _ _
      | exact LeO.none _
      | refine LeO.ite ?_ ?_
      | refine LeO.bind ?_ (fun _ => ?_)
set_option maxHeartbeats 8000000 in
set_option maxRecDepth 100000 in
theorem laws_FnClimbOf.calls (k : Nat) (A0 : Option Addr) (c0 : Nat) (l0 : List Int) (r : Bool) (w : World) (hr0 : Kd.C (Kd.int .u8) w A0 l0.length l0) (hc0 : l0.length ≤ c0) (h : laws_FnClimbOf.f k l0 = some r) :
    Calls Try.prog 9 #[.slice A0 l0.length c0] w fun e w' => e = .returned (.bool r) ∧ Below w.heap.size w w' := by
  have HR0 := Aside0.mk hr0
  have HC0 := Aside0.mk hc0
  clear hr0 hc0
  have HB := Aside0.mk (Below.refl w.heap.size w)
  have H : (if (l0.length : Int) > 1048576 then (some true) else ((spec_DrawClimbOf.f k l0).bind fun bt296 => ((impl_ClimbOf.f k bt296.1 bt296.2.1 bt296.2.2).bind fun bt305 => ((spec_ClimbOf.f k bt296.1 bt296.2.1 bt296.2.2).bind fun bt307 => (if bt305.1 = bt307.1 then (laws_FnClimbOf.j0 k bt296.1 bt296.2.1 bt296.2.2 bt305.1 bt305.2 (bt305.2 != bt307.2)) else (laws_FnClimbOf.j0 k bt296.1 bt296.2.1 bt296.2.2 bt305.1 bt305.2 true)))))) = some r := h
  clear h
  by_cases c2 : (l0.length : Int) > 1048576
  · rw [if_pos c2] at H
    have c2b0 : decide (1048576 < (l0.length : Int)) = true := decide_eq_true c2
    have c2b1 : decide (1048576 < l0.length) = true := decide_eq_true (by omega)
    clear c2
    obtain rfl := Option.some.inj H
    go_enter Try.func9, Try.ntmps9
    go_wp2
    go_ret
    exact ⟨by first | rfl | (simp [errW_none, errW_some] <;> rfl) | (simp [*, errW_none, errW_some] <;> rfl), by repeat (first | (with_reducible first | exact HB.out | apply below_alloc | apply pw_below_drewN | apply below_drew1) | exact HB.out)⟩
  · rw [if_neg c2] at H
    have c2b0 : decide (1048576 < (l0.length : Int)) = false := decide_eq_false c2
    have c2b1 : decide (1048576 < l0.length) = false := decide_eq_false (by omega)
    clear c2
    replace H := Option.bind_eq_some_iff.mp H
    obtain ⟨⟨t296, t297, t298⟩, A30, H⟩ := H
    replace H : ((impl_ClimbOf.f k t296 t297 t298).bind fun bt305 => ((spec_ClimbOf.f k t296 t297 t298).bind fun bt307 => (if bt305.1 = bt307.1 then (laws_FnClimbOf.j0 k t296 t297 t298 bt305.1 bt305.2 (bt305.2 != bt307.2)) else (laws_FnClimbOf.j0 k t296 t297 t298 bt305.1 bt305.2 true)))) = some r := H
    have A3 := Aside0.mk A30
    clear A30
    replace H := Option.bind_eq_some_iff.mp H
    obtain ⟨⟨t305, t306⟩, A40, H⟩ := H
    replace H : ((spec_ClimbOf.f k t296 t297 t298).bind fun bt307 => (if t305 = bt307.1 then (laws_FnClimbOf.j0 k t296 t297 t298 t305 t306 (t306 != bt307.2)) else (laws_FnClimbOf.j0 k t296 t297 t298 t305 t306 true))) = some r := H
    have A4 := Aside0.mk A40
    clear A40
    replace H := Option.bind_eq_some_iff.mp H
    obtain ⟨⟨t307, t308⟩, A50, H⟩ := H
    replace H : (if t305 = t307 then (laws_FnClimbOf.j0 k t296 t297 t298 t305 t306 (t306 != t308)) else (laws_FnClimbOf.j0 k t296 t297 t298 t305 t306 true)) = some r := H
    have A5 := Aside0.mk A50
    clear A50
    have HC6 := Aside0.mk H
    clear H
    go_enter Try.func9, Try.ntmps9
    go_upto_region 6 with (first | ((with_reducible refine gate_callee (f := 13) rfl ?_); refine goesL_ (some 22) rfl rfl Try.func13 (by kernel_rfl) rfl #[.slice A0 l0.length c0] rfl (by (try simp only [List.map_toArray, List.map_cons, List.map_nil]); first | done | rfl | (simp only [List.length_drop, List.length_take]; rfl)) ?_; (with_reducible refine (spec_DrawClimbOf.calls k _ _ l0 t296 t297 t298 _ ?side1 ?side2 A3.out).mono ?_); (case side1 => repeat (first | exact HR0.out | (with_reducible refine Kd.C_alloc ?_ _) | (with_reducible refine Kd.C_drewN ?_ _) | (with_reducible refine Kd.C_drew ?_))); (case side2 => exact HC0.out); rintro e w7 ⟨v299, v301, v303, rfl, ho0, ho1, ho2, hb⟩; refine ⟨_, rfl, ?_⟩; have n0_ := Aside0.mk (Kd.R_lower ho0 (below_size (by repeat (first | (with_reducible first | exact HB.out | apply below_alloc | apply pw_below_drewN | apply below_drew1) | exact HB.out)))); have n1_ := Aside0.mk (Kd.R_lower ho1 (below_size (by repeat (first | (with_reducible first | exact HB.out | apply below_alloc | apply pw_below_drewN | apply below_drew1) | exact HB.out)))); have n2_ := Aside0.mk (Kd.R_lower ho2 (below_size (by repeat (first | (with_reducible first | exact HB.out | apply below_alloc | apply pw_below_drewN | apply below_drew1) | exact HB.out)))); have n3_ := Aside0.mk (below_step (by repeat (first | (with_reducible first | exact HB.out | apply below_alloc | apply pw_below_drewN | apply below_drew1) | exact HB.out)) hb); clear HB; have HO300 := n0_; have HO302 := n1_; have HO304 := n2_; have HB := n3_; clear n0_ n1_ n2_ n3_; (try clear hb); (try clear hb2); (try clear hk); (try clear hi); (try clear ho0); (try clear ho1); (try clear ho2); obtain ⟨Ao8, co8, eo8⟩ := Kd.R_slice HO300.out; subst eo8; obtain ⟨Ao9, co9, eo9⟩ := Kd.R_slice HO302.out; subst eo9; obtain ⟨Ao10, co10, eo10⟩ := Kd.R_slice HO304.out; subst eo10) | ((with_reducible refine gate_callee (f := 14) rfl ?_); refine goesL_ (some 30) rfl rfl Try.func14 (by kernel_rfl) rfl #[.slice Ao8 t296.length co8, .slice Ao9 t297.length co9, .slice Ao10 t298.length co10] rfl (by (try simp only [List.map_toArray, List.map_cons, List.map_nil]); first | done | rfl | (simp only [List.length_drop, List.length_take]; rfl)) ?_; (with_reducible refine (impl_ClimbOf.calls k _ _ t296 _ _ t297 _ _ t298 t305 t306 _ ?side1 ?side2 ?side3 ?side4 ?side5 ?side6 A4.out).mono ?_); (case side1 => repeat (first | exact (Kd.R_reads' HO300.out).2.2 | (with_reducible refine Kd.C_alloc ?_ _) | (with_reducible refine Kd.C_drewN ?_ _) | (with_reducible refine Kd.C_drew ?_))); (case side2 => exact (Kd.R_reads' HO300.out).2.1); (case side3 => repeat (first | exact (Kd.R_reads' HO302.out).2.2 | (with_reducible refine Kd.C_alloc ?_ _) | (with_reducible refine Kd.C_drewN ?_ _) | (with_reducible refine Kd.C_drew ?_))); (case side4 => exact (Kd.R_reads' HO302.out).2.1); (case side5 => repeat (first | exact (Kd.R_reads' HO304.out).2.2 | (with_reducible refine Kd.C_alloc ?_ _) | (with_reducible refine Kd.C_drewN ?_ _) | (with_reducible refine Kd.C_drew ?_))); (case side6 => exact (Kd.R_reads' HO304.out).2.1); rintro e w' ⟨rfl, ⟨nd, rfl⟩⟩; refine ⟨_, rfl, ?_⟩) | ((with_reducible refine gate_callee (f := 31) rfl ?_); refine goesL_ (some 37) rfl rfl Try.func31 (by kernel_rfl) rfl #[.slice Ao8 t296.length co8, .slice Ao9 t297.length co9, .slice Ao10 t298.length co10] rfl (by (try simp only [List.map_toArray, List.map_cons, List.map_nil]); first | done | rfl | (simp only [List.length_drop, List.length_take]; rfl)) ?_; (with_reducible refine (spec_ClimbOf.calls k _ _ t296 _ _ t297 _ _ t298 t307 t308 _ ?side1 ?side2 ?side3 ?side4 ?side5 ?side6 A5.out).mono ?_); (case side1 => repeat (first | exact (Kd.R_reads' HO300.out).2.2 | (with_reducible refine Kd.C_alloc ?_ _) | (with_reducible refine Kd.C_drewN ?_ _) | (with_reducible refine Kd.C_drew ?_))); (case side2 => exact (Kd.R_reads' HO300.out).2.1); (case side3 => repeat (first | exact (Kd.R_reads' HO302.out).2.2 | (with_reducible refine Kd.C_alloc ?_ _) | (with_reducible refine Kd.C_drewN ?_ _) | (with_reducible refine Kd.C_drew ?_))); (case side4 => exact (Kd.R_reads' HO302.out).2.1); (case side5 => repeat (first | exact (Kd.R_reads' HO304.out).2.2 | (with_reducible refine Kd.C_alloc ?_ _) | (with_reducible refine Kd.C_drewN ?_ _) | (with_reducible refine Kd.C_drew ?_))); (case side6 => exact (Kd.R_reads' HO304.out).2.1); rintro e w11 ⟨rfl, hb⟩; refine ⟨_, rfl, ?_⟩; have n0_ := Aside0.mk (Kd.R_below (by (with_reducible repeat (first | apply Kd.R_alloc | apply Kd.R_drewN | apply Kd.R_drew)); exact HO300.out) hb); have n1_ := Aside0.mk (Kd.R_below (by (with_reducible repeat (first | apply Kd.R_alloc | apply Kd.R_drewN | apply Kd.R_drew)); exact HO302.out) hb); have n2_ := Aside0.mk (Kd.R_below (by (with_reducible repeat (first | apply Kd.R_alloc | apply Kd.R_drewN | apply Kd.R_drew)); exact HO304.out) hb); have n3_ := Aside0.mk (below_step (by repeat (first | (with_reducible first | exact HB.out | apply below_alloc | apply pw_below_drewN | apply below_drew1) | exact HB.out)) hb); clear HO300; clear HO302; clear HO304; clear HB; have HO300 := n0_; have HO302 := n1_; have HO304 := n2_; have HB := n3_; clear n0_ n1_ n2_ n3_; (try clear hb); (try clear hb2); (try clear hk); (try clear hi)))
    (try simp only [Act.put, List.setIfInBounds_toArray, List.set_cons_zero, List.set_cons_succ])
    go_cut [47] (fun v47 wc => ∃ (kq : Nat) (x47_5 : Bool), v47 = .bool x47_5 ∧ Aside0 (laws_FnClimbOf.j0 kq t296 t297 t298 t305 t306 x47_5 = some r) ∧ Aside0 (kq ≤ k) ∧ Aside0 (Kd.R (Kd.int .i64) 3 wc w.heap.size (fun k_ => some k_ ≠ ((.slice Ao9 t297.length co9) : Value).ownBlock ∧ some k_ ≠ ((.slice Ao10 t298.length co10) : Value).ownBlock) (.slice Ao8 t296.length co8) t296) ∧ Aside0 (Kd.R (Kd.int .i64) 3 wc w.heap.size (fun k_ => some k_ ≠ ((.slice Ao8 t296.length co8) : Value).ownBlock ∧ some k_ ≠ ((.slice Ao10 t298.length co10) : Value).ownBlock) (.slice Ao9 t297.length co9) t297) ∧ Aside0 (Kd.R (Kd.int .i64) 3 wc w.heap.size (fun k_ => some k_ ≠ ((.slice Ao8 t296.length co8) : Value).ownBlock ∧ some k_ ≠ ((.slice Ao9 t297.length co9) : Value).ownBlock) (.slice Ao10 t298.length co10) t298) ∧ Aside0 (Below w.heap.size w wc))
    case first =>
      have H := HC6.out
      clear HC6
      by_cases c12 : t305 = t307
      · rw [if_pos c12] at H
        have c12b0 : (t305 == t307) = true := beq_iff_eq.mpr c12
        have c12b1 : (t305 != t307) = false := bne_eq_false_iff_eq.mpr c12
        clear c12
        (first | rw [c12b0] | (simp only [i64_w, i32_w]; rw [c12b0]) | skip)
        have H' := Aside0.mk H
        clear H
        go_wp2
        go_meet
        case rel => exact ⟨_, ((t306 != t308)), (by first | rfl | (simp; done) | (simp [*]; done)), H', ⟨by first | omega | exact Nat.le_refl _⟩, ⟨by (with_reducible repeat (first | apply Kd.R_alloc | apply Kd.R_drewN | apply Kd.R_drew)); exact HO300.out⟩, ⟨by (with_reducible repeat (first | apply Kd.R_alloc | apply Kd.R_drewN | apply Kd.R_drew)); exact HO302.out⟩, ⟨by (with_reducible repeat (first | apply Kd.R_alloc | apply Kd.R_drewN | apply Kd.R_drew)); exact HO304.out⟩, ⟨by repeat (first | (with_reducible first | exact HB.out | apply below_alloc | apply pw_below_drewN | apply below_drew1) | exact HB.out)⟩⟩
      · rw [if_neg c12] at H
        have c12b0 : (t305 == t307) = false := beq_eq_false_iff_ne.mpr c12
        have c12b1 : (t305 != t307) = true := bne_iff_ne.mpr c12
        (first | rw [c12b0] | (simp only [i64_w, i32_w]; rw [c12b0]) | skip)
        have H' := Aside0.mk H
        clear H
        go_wp2
        go_meet
        case rel => exact ⟨_, (true), (by first | rfl | (simp; done) | (simp [*]; done)), H', ⟨by first | omega | exact Nat.le_refl _⟩, ⟨by (with_reducible repeat (first | apply Kd.R_alloc | apply Kd.R_drewN | apply Kd.R_drew)); exact HO300.out⟩, ⟨by (with_reducible repeat (first | apply Kd.R_alloc | apply Kd.R_drewN | apply Kd.R_drew)); exact HO302.out⟩, ⟨by (with_reducible repeat (first | apply Kd.R_alloc | apply Kd.R_drewN | apply Kd.R_drew)); exact HO304.out⟩, ⟨by repeat (first | (with_reducible first | exact HB.out | apply below_alloc | apply pw_below_drewN | apply below_drew1) | exact HB.out)⟩⟩
    case rest =>
      clear HC6
      try clear c1
      try clear c2
      try clear c2b0
      try clear c2b1
      try clear p2
      try clear c3
      try clear c9
      try clear c12
      try clear c12b0
      try clear c12b1
      obtain ⟨kq, x47_5, rfl, HA, HJ5, HO_3, HO_4, HO_5, HB⟩ := hcut
      cases kq with
      | zero => exact absurd HA.out (by simp [laws_FnClimbOf.j0])
      | succ kj5 =>
        have H := HA.out
        clear HA
        simp only [laws_FnClimbOf.j0] at H
        by_cases c13 : x47_5 = true
        · subst c13
          have H1 : (some false) = some r := by rw [if_pos rfl] at H; exact H
          clear H
          have H := H1
          clear H1
          obtain rfl := Option.some.inj H
          go_wp2
          go_ret
          exact ⟨by first | rfl | (simp [errW_none, errW_some] <;> rfl) | (simp [*, errW_none, errW_some] <;> rfl), by repeat (first | (with_reducible first | exact HB.out | apply below_alloc | apply pw_below_drewN | apply below_drew1) | exact HB.out)⟩
        · replace c13 := Bool.eq_false_iff.mpr c13
          subst c13
          have H1 : (if t306 = true then (laws_FnClimbOf.l0 kj5 t296 t297 t298 t305 (([] : List Int)) 0) else (if t305 = 0 then ((laws_alive.f kj5).bind fun t309 => (some t309)) else (some false))) = some r := by rw [if_neg (show ¬ (false = true) by decide)] at H; exact H
          clear H
          have H := H1
          clear H1
          by_cases c14 : t306 = true
          · subst c14
            have H1 : (laws_FnClimbOf.l0 kj5 t296 t297 t298 t305 (([] : List Int)) 0) = some r := by rw [if_pos rfl] at H; exact H
            clear H
            have H := H1
            clear H1
            obtain ⟨y310, hy310⟩ : ∃ y_ : List Int, y_ = (([] : List Int)) := ⟨_, rfl⟩
            replace H : (laws_FnClimbOf.l0 kj5 t296 t297 t298 t305 y310 0) = some r := by first | (rw [hy310]; with_reducible exact H) | (have H2_ := (Option.bind_some _ _).symm.trans H; rw [hy310]; with_reducible exact H2_) | (have H2_ := (Option.bind_some _ _).symm.trans H; with_reducible exact H2_) | with_reducible exact H | (rw [hy310]; exact H) | exact H
            have Ny310 := Aside0.mk hy310
            clear hy310
            have H' := Aside0.mk H
            clear H
            go_wp2_with (first | ((with_reducible refine gate_dst (N := 55) rfl ?_); (try (refine gate_guard (by rfl) ?_; dsimp only)); refine Kd.R_lit (Kd.int .i64) _ 3 ?hg (N := 55) ?hd (xs := ([] : List Int)) (inner := []) (ok := fun _ => True) (okp := fun _ => True) ?hr ?hp (fun _ hk => hk) trivial (Below.refl _ _) (Nat.le_refl _) (by simp) ?_; (case hd => rfl); (case hg => rfl); (case hr => first | (go_simp; done) | (go_simp; rfl)); (case hp => exact (Reps.none _ _)); intro v311 w15 ho16 hb hg_ hnew_; clear hg_ hnew_; (first | rw [← Ny310.out] at ho16 | (simp only [Int.reduceToNat] at ho16; rw [← Ny310.out] at ho16)); have n0_ := Aside0.mk (Kd.R_elder' (by (with_reducible repeat (first | apply Kd.R_alloc | apply Kd.R_drewN | apply Kd.R_drew)); exact HO_3.out) (Kd.R_base ho16) hb); have n1_ := Aside0.mk (Kd.R_elder' (by (with_reducible repeat (first | apply Kd.R_alloc | apply Kd.R_drewN | apply Kd.R_drew)); exact HO_4.out) (Kd.R_base ho16) hb); have n2_ := Aside0.mk (Kd.R_elder' (by (with_reducible repeat (first | apply Kd.R_alloc | apply Kd.R_drewN | apply Kd.R_drew)); exact HO_5.out) (Kd.R_base ho16) hb); have n3_ := Aside0.mk (Kd.R_lower (Kd.R_new' (Kd.R_new' (Kd.R_new' ho16 (Kd.R_lt (by (with_reducible repeat (first | apply Kd.R_alloc | apply Kd.R_drewN | apply Kd.R_drew)); exact HO_3.out))) (Kd.R_lt (by (with_reducible repeat (first | apply Kd.R_alloc | apply Kd.R_drewN | apply Kd.R_drew)); exact HO_4.out))) (Kd.R_lt (by (with_reducible repeat (first | apply Kd.R_alloc | apply Kd.R_drewN | apply Kd.R_drew)); exact HO_5.out))) (below_size (by repeat (first | (with_reducible first | exact HB.out | apply below_alloc | apply pw_below_drewN | apply below_drew1) | exact HB.out)))); have n4_ := Aside0.mk (below_step (by repeat (first | (with_reducible first | exact HB.out | apply below_alloc | apply pw_below_drewN | apply below_drew1) | exact HB.out)) hb); clear HO_3; clear HO_4; clear HO_5; clear HB; have HO_3 := n0_; have HO_4 := n1_; have HO_5 := n2_; have HO312 := n3_; have HB := n4_; clear n0_ n1_ n2_ n3_ n4_; clear hb ho16))
            go_loopg [10, 11] kj5 (fun kq v10 v11 w' => ∃ (x10_2 : List Int) (x11_2 : Int), v11 = .int .i64 x11_2 ∧ Aside0 (laws_FnClimbOf.l0 kq t296 t297 t298 t305 x10_2 x11_2 = some r) ∧ Aside0 (kq ≤ kj5) ∧ Aside0 (Kd.R (Kd.int .i64) 3 w' w.heap.size (fun k_ => some k_ ≠ ((.slice Ao9 t297.length co9) : Value).ownBlock ∧ some k_ ≠ ((.slice Ao10 t298.length co10) : Value).ownBlock ∧ some k_ ≠ (v10 : Value).ownBlock) (.slice Ao8 t296.length co8) t296) ∧ Aside0 (Kd.R (Kd.int .i64) 3 w' w.heap.size (fun k_ => some k_ ≠ ((.slice Ao8 t296.length co8) : Value).ownBlock ∧ some k_ ≠ ((.slice Ao10 t298.length co10) : Value).ownBlock ∧ some k_ ≠ (v10 : Value).ownBlock) (.slice Ao9 t297.length co9) t297) ∧ Aside0 (Kd.R (Kd.int .i64) 3 w' w.heap.size (fun k_ => some k_ ≠ ((.slice Ao8 t296.length co8) : Value).ownBlock ∧ some k_ ≠ ((.slice Ao9 t297.length co9) : Value).ownBlock ∧ some k_ ≠ (v10 : Value).ownBlock) (.slice Ao10 t298.length co10) t298) ∧ Aside0 (Kd.R (Kd.int .i64) 3 w' w.heap.size (fun k_ => some k_ ≠ ((.slice Ao8 t296.length co8) : Value).ownBlock ∧ some k_ ≠ ((.slice Ao9 t297.length co9) : Value).ownBlock ∧ some k_ ≠ ((.slice Ao10 t298.length co10) : Value).ownBlock) v10 x10_2) ∧ Aside0 (Below w.heap.size w w'))
            case atStart => exact ⟨(y310), (0), (by first | rfl | (simp; done) | (simp [*]; done)), H', ⟨Nat.le_refl _⟩, ⟨by (with_reducible repeat (first | apply Kd.R_alloc | apply Kd.R_drewN | apply Kd.R_drew)); exact Kd.R_mono HO_3.out (fun _ hk => ⟨hk.1.1, ⟨hk.1.2, hk.2⟩⟩)⟩, ⟨by (with_reducible repeat (first | apply Kd.R_alloc | apply Kd.R_drewN | apply Kd.R_drew)); exact Kd.R_mono HO_4.out (fun _ hk => ⟨hk.1.1, ⟨hk.1.2, hk.2⟩⟩)⟩, ⟨by (with_reducible repeat (first | apply Kd.R_alloc | apply Kd.R_drewN | apply Kd.R_drew)); exact Kd.R_mono HO_5.out (fun _ hk => ⟨hk.1.1, ⟨hk.1.2, hk.2⟩⟩)⟩, ⟨by (with_reducible repeat (first | apply Kd.R_alloc | apply Kd.R_drewN | apply Kd.R_drew)); exact Kd.R_mono HO312.out (fun _ hk => ⟨hk.1.1.2, ⟨hk.1.2, hk.2⟩⟩)⟩, ⟨by repeat (first | (with_reducible first | exact HB.out | apply below_alloc | apply pw_below_drewN | apply below_drew1) | exact HB.out)⟩⟩
            case round =>
              clear H'
              try clear c1
              try clear c2
              try clear c2b0
              try clear c2b1
              try clear p2
              try clear c3
              try clear c9
              try clear c12
              try clear c12b0
              try clear c12b1
              try clear c13
              try clear c14
              try clear p2
              obtain ⟨x10_2, x11_2, rfl, HA, HK2, HO_3, HO_4, HO_5, HO_10, HB⟩ := hrel
              cases gk with
              | zero => exact absurd HA.out (by simp [laws_FnClimbOf.l0])
              | succ k2 =>
                have H := HA.out
                clear HA
                simp only [laws_FnClimbOf.l0] at H
                by_cases c17 : x11_2 < (t298.length : Int)
                · rw [if_pos c17] at H
                  have c17b0 : decide (x11_2 < (t298.length : Int)) = true := decide_eq_true c17
                  clear c17
                  by_cases c18 : 0 ≤ x11_2
                  · rw [if_pos c18] at H
                    have c18b0 : decide (0 ≤ x11_2) = true := decide_eq_true c18
                    clear c18
                    obtain ⟨y314, hy314⟩ : ∃ y_ : List Int, y_ = (([rd t298 x11_2] : List Int)) := ⟨_, rfl⟩
                    replace H : (if y314.length + x10_2.length < 17592186044416 then (laws_FnClimbOf.l0 k2 t296 t297 t298 t305 (y314 ++ x10_2) (wrap64 (x11_2 + 1))) else (none)) = some r := by first | (rw [hy314]; with_reducible exact H) | (have H2_ := (Option.bind_some _ _).symm.trans H; rw [hy314]; with_reducible exact H2_) | (have H2_ := (Option.bind_some _ _).symm.trans H; with_reducible exact H2_) | with_reducible exact H | (rw [hy314]; exact H) | exact H
                    have Ny314 := Aside0.mk hy314
                    clear hy314
                    by_cases c19 : y314.length + x10_2.length < 17592186044416
                    · rw [if_pos c19] at H
                      have LMc19 := Aside0.mk c19
                      clear c19
                      obtain ⟨y317, hy317⟩ : ∃ y_ : List Int, y_ = (y314 ++ x10_2) := ⟨_, rfl⟩
                      replace H : (laws_FnClimbOf.l0 k2 t296 t297 t298 t305 y317 (wrap64 (x11_2 + 1))) = some r := by first | (rw [hy317]; with_reducible exact H) | (have H2_ := (Option.bind_some _ _).symm.trans H; rw [hy317]; with_reducible exact H2_) | (have H2_ := (Option.bind_some _ _).symm.trans H; with_reducible exact H2_) | with_reducible exact H | (rw [hy317]; exact H) | exact H
                      have Ny317 := Aside0.mk hy317
                      clear hy317
                      have H' := Aside0.mk H
                      clear H
                      have p313 : 0 ≤ (x11_2 : Int) := of_decide_eq_true (by first | (with_reducible assumption) | assumption)
                      have q313 : x11_2 < (t298.length : Int) := of_decide_eq_true (by first | (with_reducible assumption) | assumption)
                      obtain ⟨ad313, e313, hx313_0⟩ := Kd.at_int (Kd.R_reads' HO_5.out).2.2 x11_2 p313 q313
                      cases e313
                      replace p313 := eq_true p313
                      replace q313 := eq_true q313
                      go_wp2_with (first | ((with_reducible refine gate_dst (N := 66) rfl ?_); (try (refine gate_guard (by rfl) ?_; dsimp only)); refine Kd.R_lit (Kd.int .i64) _ 3 ?hg (N := 66) ?hd (xs := ([rd t298 x11_2] : List Int)) (inner := [.int .i64 (rd t298 x11_2)]) (ok := fun _ => True) (okp := fun _ => True) ?hr ?hp (fun _ hk => hk) trivial (Below.refl _ _) (Nat.le_refl _) (by simp) ?_; (case hd => rfl); (case hg => rfl); (case hr => first | (go_simp; done) | (go_simp; rfl)); (case hp => exact (Reps.one (show Kd.M (Kd.int .i64) _ _ _ (rd t298 x11_2) [.int .i64 (rd t298 x11_2)] from rfl) (Reps.none _ _))); intro v315 w20 ho21 hb hg_ hnew_; clear hg_ hnew_; (first | rw [← Ny314.out] at ho21 | (simp only [Int.reduceToNat] at ho21; rw [← Ny314.out] at ho21)); have n0_ := Aside0.mk (Kd.R_elder' (by (with_reducible repeat (first | apply Kd.R_alloc | apply Kd.R_drewN | apply Kd.R_drew)); exact HO_3.out) (Kd.R_base ho21) hb); have n1_ := Aside0.mk (Kd.R_elder' (by (with_reducible repeat (first | apply Kd.R_alloc | apply Kd.R_drewN | apply Kd.R_drew)); exact HO_4.out) (Kd.R_base ho21) hb); have n2_ := Aside0.mk (Kd.R_elder' (by (with_reducible repeat (first | apply Kd.R_alloc | apply Kd.R_drewN | apply Kd.R_drew)); exact HO_5.out) (Kd.R_base ho21) hb); have n3_ := Aside0.mk (Kd.R_elder' (by (with_reducible repeat (first | apply Kd.R_alloc | apply Kd.R_drewN | apply Kd.R_drew)); exact HO_10.out) (Kd.R_base ho21) hb); have n4_ := Aside0.mk (Kd.R_lower (Kd.R_new' (Kd.R_new' (Kd.R_new' (Kd.R_new' ho21 (Kd.R_lt (by (with_reducible repeat (first | apply Kd.R_alloc | apply Kd.R_drewN | apply Kd.R_drew)); exact HO_3.out))) (Kd.R_lt (by (with_reducible repeat (first | apply Kd.R_alloc | apply Kd.R_drewN | apply Kd.R_drew)); exact HO_4.out))) (Kd.R_lt (by (with_reducible repeat (first | apply Kd.R_alloc | apply Kd.R_drewN | apply Kd.R_drew)); exact HO_5.out))) (Kd.R_lt (by (with_reducible repeat (first | apply Kd.R_alloc | apply Kd.R_drewN | apply Kd.R_drew)); exact HO_10.out))) (below_size (by repeat (first | (with_reducible first | exact HB.out | apply below_alloc | apply pw_below_drewN | apply below_drew1) | exact HB.out)))); have n5_ := Aside0.mk (below_step (by repeat (first | (with_reducible first | exact HB.out | apply below_alloc | apply pw_below_drewN | apply below_drew1) | exact HB.out)) hb); clear HO_3; clear HO_4; clear HO_5; clear HO_10; clear HB; have HO_3 := n0_; have HO_4 := n1_; have HO_5 := n2_; have HO_10 := n3_; have HO316 := n4_; have HB := n5_; clear n0_ n1_ n2_ n3_ n4_ n5_; clear hb ho21; obtain ⟨Ao23, co23, eo23⟩ := Kd.R_slice HO_10.out; subst eo23) | ((with_reducible refine gate_builtin (b := .append) (xs := #[.tmp 66, .tmp 67]) rfl ?_); (try (refine gate_guard (by rfl) ?_; dsimp only)); at_builtin; refine Kd.R_append_rows (Kd.int .i64) (w0 := w) w.heap.size rfl (.tmp 66) (.tmp 67) 23 3 (.int .i64 0) 8 rfl Try.underlying23 info3 rfl (by decide) (by omega) v315 y314 x10_2 _ _ _ (fun k_ => some k_ ≠ (.slice Ao8 t296.length co8 : Value).ownBlock ∧ some k_ ≠ (.slice Ao9 t297.length co9 : Value).ownBlock ∧ some k_ ≠ (.slice (some ad313) t298.length co10 : Value).ownBlock ∧ some k_ ≠ (.slice Ao23 x10_2.length co23 : Value).ownBlock) (fun _ => False) rfl rfl ?aO ?aR (fun _ _ h => h) (fun _ h => h.elim) ?aF ?aB ?aS ?aL ?_; (case aR => repeat (first | exact (Kd.R_reads' HO_10.out).2.2 | (with_reducible refine Kd.C_alloc ?_ _) | (with_reducible refine Kd.C_drewN ?_ _) | (with_reducible refine Kd.C_drew ?_))); (case aB => exact (by repeat (first | (with_reducible first | exact HB.out | apply below_alloc | apply pw_below_drewN | apply below_drew1) | exact HB.out))); (case aF => exact (fun k_ hk => ⟨Kd.fresh' (Kd.R_lt (by (with_reducible repeat (first | apply Kd.R_alloc | apply Kd.R_drewN | apply Kd.R_drew)); exact HO_3.out)) k_ hk, Kd.fresh' (Kd.R_lt (by (with_reducible repeat (first | apply Kd.R_alloc | apply Kd.R_drewN | apply Kd.R_drew)); exact HO_4.out)) k_ hk, Kd.fresh' (Kd.R_lt (by (with_reducible repeat (first | apply Kd.R_alloc | apply Kd.R_drewN | apply Kd.R_drew)); exact HO_5.out)) k_ hk, Kd.fresh' (Kd.R_lt (by (with_reducible repeat (first | apply Kd.R_alloc | apply Kd.R_drewN | apply Kd.R_drew)); exact HO_10.out)) k_ hk⟩)); (case aO => exact (by (with_reducible repeat (first | apply Kd.R_alloc | apply Kd.R_drewN | apply Kd.R_drew)); exact Kd.R_mono HO316.out (fun _ hk => ⟨hk.1.1.1.2, ⟨hk.1.1.2, ⟨hk.1.2, hk.2⟩⟩⟩))); (case aS => exact (below_size (by repeat (first | (with_reducible first | exact HB.out | apply below_alloc | apply pw_below_drewN | apply below_drew1) | exact HB.out)))); (case aL => have := LMc19.out; omega); intro v318 w22 ho hb hg hat; rw [← Ny317.out] at ho; have n0_ := Aside0.mk (Kd.R_after (ok := (fun k_ => some k_ ≠ (.slice Ao9 t297.length co9 : Value).ownBlock ∧ some k_ ≠ (.slice (some ad313) t298.length co10 : Value).ownBlock ∧ some k_ ≠ (.slice Ao23 x10_2.length co23 : Value).ownBlock)) (by (with_reducible repeat (first | apply Kd.R_alloc | apply Kd.R_drewN | apply Kd.R_drew)); first | exact HO_3.out | exact Kd.R_mono HO_3.out (fun _ hk => by (obtain ⟨hk1_, hk2_⟩ := hk; (try obtain ⟨ha_, hk1_⟩ := hk1_); (try obtain ⟨hb_, hk1_⟩ := hk1_); (try obtain ⟨hc_, hk1_⟩ := hk1_); (repeat' apply And.intro) <;> assumption))) hg hat); have n1_ := Aside0.mk (Kd.R_after (ok := (fun k_ => some k_ ≠ (.slice Ao8 t296.length co8 : Value).ownBlock ∧ some k_ ≠ (.slice (some ad313) t298.length co10 : Value).ownBlock ∧ some k_ ≠ (.slice Ao23 x10_2.length co23 : Value).ownBlock)) (by (with_reducible repeat (first | apply Kd.R_alloc | apply Kd.R_drewN | apply Kd.R_drew)); first | exact HO_4.out | exact Kd.R_mono HO_4.out (fun _ hk => by (obtain ⟨hk1_, hk2_⟩ := hk; (try obtain ⟨ha_, hk1_⟩ := hk1_); (try obtain ⟨hb_, hk1_⟩ := hk1_); (try obtain ⟨hc_, hk1_⟩ := hk1_); (repeat' apply And.intro) <;> assumption))) hg hat); have n2_ := Aside0.mk (Kd.R_after (ok := (fun k_ => some k_ ≠ (.slice Ao8 t296.length co8 : Value).ownBlock ∧ some k_ ≠ (.slice Ao9 t297.length co9 : Value).ownBlock ∧ some k_ ≠ (.slice Ao23 x10_2.length co23 : Value).ownBlock)) (by (with_reducible repeat (first | apply Kd.R_alloc | apply Kd.R_drewN | apply Kd.R_drew)); first | exact HO_5.out | exact Kd.R_mono HO_5.out (fun _ hk => by (obtain ⟨hk1_, hk2_⟩ := hk; (try obtain ⟨ha_, hk1_⟩ := hk1_); (try obtain ⟨hb_, hk1_⟩ := hk1_); (try obtain ⟨hc_, hk1_⟩ := hk1_); (repeat' apply And.intro) <;> assumption))) hg hat); have n3_ := Aside0.mk (Kd.R_after (ok := (fun k_ => some k_ ≠ (.slice Ao8 t296.length co8 : Value).ownBlock ∧ some k_ ≠ (.slice Ao9 t297.length co9 : Value).ownBlock ∧ some k_ ≠ (.slice (some ad313) t298.length co10 : Value).ownBlock)) (by (with_reducible repeat (first | apply Kd.R_alloc | apply Kd.R_drewN | apply Kd.R_drew)); first | exact HO_10.out | exact Kd.R_mono HO_10.out (fun _ hk => by (obtain ⟨hk1_, hk2_⟩ := hk; (try obtain ⟨ha_, hk1_⟩ := hk1_); (try obtain ⟨hb_, hk1_⟩ := hk1_); (try obtain ⟨hc_, hk1_⟩ := hk1_); (repeat' apply And.intro) <;> assumption))) hg hat); have n4_ := Aside0.mk (hb); have n5_ := Aside0.mk (ho); clear HO_3; clear HO_4; clear HO_5; clear HO_10; clear HB; clear HO316; have HO_3 := n0_; have HO_4 := n1_; have HO_5 := n2_; have HO_10 := n3_; have HB := n4_; have HO319 := n5_; clear n0_ n1_ n2_ n3_ n4_ n5_; clear ho hb hg hat))
                      go_roundg k2
                      case measure => have := HJ5.out; have := HK2.out; omega
                      case rel => exact ⟨(y317), (wrap64 (x11_2 + 1)), (by first | rfl | (simp; done) | (simp [*]; done)), H', ⟨by have := HJ5.out; have := HK2.out; omega⟩, ⟨by (with_reducible repeat (first | apply Kd.R_alloc | apply Kd.R_drewN | apply Kd.R_drew)); exact Kd.R_mono HO_3.out (fun _ hk => ⟨hk.1.1, ⟨hk.1.2.1, hk.2⟩⟩)⟩, ⟨by (with_reducible repeat (first | apply Kd.R_alloc | apply Kd.R_drewN | apply Kd.R_drew)); exact Kd.R_mono HO_4.out (fun _ hk => ⟨hk.1.1, ⟨hk.1.2.1, hk.2⟩⟩)⟩, ⟨by (with_reducible repeat (first | apply Kd.R_alloc | apply Kd.R_drewN | apply Kd.R_drew)); exact Kd.R_mono HO_5.out (fun _ hk => ⟨hk.1.1, ⟨hk.1.2.1, hk.2⟩⟩)⟩, ⟨by (with_reducible repeat (first | apply Kd.R_alloc | apply Kd.R_drewN | apply Kd.R_drew)); exact Kd.R_mono HO319.out (fun _ hk => ⟨hk.1, ⟨hk.2.1, hk.2.2.1⟩⟩)⟩, ⟨by repeat (first | (with_reducible first | exact HB.out | apply below_alloc | apply pw_below_drewN | apply below_drew1) | exact HB.out)⟩⟩
                    · rw [if_neg c19] at H
                      exact absurd H (by simp)
                  · rw [if_neg c18] at H
                    exact absurd H (by simp)
                · rw [if_neg c17] at H
                  have c17b0 : decide (x11_2 < (t298.length : Int)) = false := decide_eq_false c17
                  clear c17
                  replace H := Option.bind_eq_some_iff.mp H
                  obtain ⟨⟨t320, t321⟩, A240, H⟩ := H
                  replace H : ((some (([] : List Int) : List Int)).bind fun y322 => (if y322.length + t298.length < 17592186044416 then ((some (y322 ++ t298 : List Int)).bind fun y325 => (if 1 ≤ (x10_2.length : Int) then ((some (x10_2.drop 1 : List Int)).bind fun y328 => (if y325.length + y328.length < 17592186044416 then ((impl_ClimbOf.f k2 t296 t297 (y325 ++ y328)).bind fun bt335 => (if t321 = true then (if t320 = (wrap64 (-t305)) then (if bt335.2 = true then (if bt335.1 = 0 then (if t305 < (t298.length : Int) then (some (decide (t305 > (wrap64 (-(t298.length : Int)))))) else (some false)) else (some false)) else (if t305 < (t298.length : Int) then (some (decide (t305 > (wrap64 (-(t298.length : Int)))))) else (some false))) else (some false)) else (some false))) else (none))) else (none))) else (none))) = some r := H
                  have A24 := Aside0.mk A240
                  clear A240
                  obtain ⟨y322, hy322⟩ : ∃ y_ : List Int, y_ = (([] : List Int)) := ⟨_, rfl⟩
                  replace H : (if y322.length + t298.length < 17592186044416 then ((some (y322 ++ t298 : List Int)).bind fun y325 => (if 1 ≤ (x10_2.length : Int) then ((some (x10_2.drop 1 : List Int)).bind fun y328 => (if y325.length + y328.length < 17592186044416 then ((impl_ClimbOf.f k2 t296 t297 (y325 ++ y328)).bind fun bt335 => (if t321 = true then (if t320 = (wrap64 (-t305)) then (if bt335.2 = true then (if bt335.1 = 0 then (if t305 < (t298.length : Int) then (some (decide (t305 > (wrap64 (-(t298.length : Int)))))) else (some false)) else (some false)) else (if t305 < (t298.length : Int) then (some (decide (t305 > (wrap64 (-(t298.length : Int)))))) else (some false))) else (some false)) else (some false))) else (none))) else (none))) else (none)) = some r := by first | (rw [hy322]; with_reducible exact H) | (have H2_ := (Option.bind_some _ _).symm.trans H; rw [hy322]; with_reducible exact H2_) | (have H2_ := (Option.bind_some _ _).symm.trans H; with_reducible exact H2_) | with_reducible exact H | (rw [hy322]; exact H) | exact H
                  have Ny322 := Aside0.mk hy322
                  clear hy322
                  by_cases c25 : y322.length + t298.length < 17592186044416
                  · rw [if_pos c25] at H
                    have LMc25 := Aside0.mk c25
                    clear c25
                    obtain ⟨y325, hy325⟩ : ∃ y_ : List Int, y_ = (y322 ++ t298) := ⟨_, rfl⟩
                    replace H : (if 1 ≤ (x10_2.length : Int) then ((some (x10_2.drop 1 : List Int)).bind fun y328 => (if y325.length + y328.length < 17592186044416 then ((impl_ClimbOf.f k2 t296 t297 (y325 ++ y328)).bind fun bt335 => (if t321 = true then (if t320 = (wrap64 (-t305)) then (if bt335.2 = true then (if bt335.1 = 0 then (if t305 < (t298.length : Int) then (some (decide (t305 > (wrap64 (-(t298.length : Int)))))) else (some false)) else (some false)) else (if t305 < (t298.length : Int) then (some (decide (t305 > (wrap64 (-(t298.length : Int)))))) else (some false))) else (some false)) else (some false))) else (none))) else (none)) = some r := by first | (rw [hy325]; with_reducible exact H) | (have H2_ := (Option.bind_some _ _).symm.trans H; rw [hy325]; with_reducible exact H2_) | (have H2_ := (Option.bind_some _ _).symm.trans H; with_reducible exact H2_) | with_reducible exact H | (rw [hy325]; exact H) | exact H
                    have Ny325 := Aside0.mk hy325
                    clear hy325
                    by_cases c26 : 1 ≤ (x10_2.length : Int)
                    · rw [if_pos c26] at H
                      have LKc26 := Aside0.mk c26
                      have c26b0 := eq_true c26
                      have c26b1 : decide (1 ≤ (x10_2.length : Int)) = true := decide_eq_true c26
                      clear c26
                      obtain ⟨y328, hy328⟩ : ∃ y_ : List Int, y_ = (x10_2.drop 1) := ⟨_, rfl⟩
                      replace H : (if y325.length + y328.length < 17592186044416 then ((impl_ClimbOf.f k2 t296 t297 (y325 ++ y328)).bind fun bt335 => (if t321 = true then (if t320 = (wrap64 (-t305)) then (if bt335.2 = true then (if bt335.1 = 0 then (if t305 < (t298.length : Int) then (some (decide (t305 > (wrap64 (-(t298.length : Int)))))) else (some false)) else (some false)) else (if t305 < (t298.length : Int) then (some (decide (t305 > (wrap64 (-(t298.length : Int)))))) else (some false))) else (some false)) else (some false))) else (none)) = some r := by first | (rw [hy328]; with_reducible exact H) | (have H2_ := (Option.bind_some _ _).symm.trans H; rw [hy328]; with_reducible exact H2_) | (have H2_ := (Option.bind_some _ _).symm.trans H; with_reducible exact H2_) | with_reducible exact H | (rw [hy328]; exact H) | exact H
                      have Ny328 := Aside0.mk hy328
                      clear hy328
                      by_cases c27 : y325.length + y328.length < 17592186044416
                      · rw [if_pos c27] at H
                        have LMc27 := Aside0.mk c27
                        clear c27
                        obtain ⟨y332, hy332⟩ : ∃ y_ : List Int, y_ = (y325 ++ y328) := ⟨_, rfl⟩
                        replace H : ((impl_ClimbOf.f k2 t296 t297 y332).bind fun bt335 => (if t321 = true then (if t320 = (wrap64 (-t305)) then (if bt335.2 = true then (if bt335.1 = 0 then (if t305 < (t298.length : Int) then (some (decide (t305 > (wrap64 (-(t298.length : Int)))))) else (some false)) else (some false)) else (if t305 < (t298.length : Int) then (some (decide (t305 > (wrap64 (-(t298.length : Int)))))) else (some false))) else (some false)) else (some false))) = some r := by first | (rw [hy332]; with_reducible exact H) | (have H2_ := (Option.bind_some _ _).symm.trans H; rw [hy332]; with_reducible exact H2_) | (have H2_ := (Option.bind_some _ _).symm.trans H; with_reducible exact H2_) | with_reducible exact H | (rw [hy332]; exact H) | exact H
                        have Ny332 := Aside0.mk hy332
                        clear hy332
                        replace H := Option.bind_eq_some_iff.mp H
                        obtain ⟨⟨t335, t336⟩, A280, H⟩ := H
                        replace H : (if t321 = true then (if t320 = (wrap64 (-t305)) then (if t336 = true then (if t335 = 0 then (if t305 < (t298.length : Int) then (some (decide (t305 > (wrap64 (-(t298.length : Int)))))) else (some false)) else (some false)) else (if t305 < (t298.length : Int) then (some (decide (t305 > (wrap64 (-(t298.length : Int)))))) else (some false))) else (some false)) else (some false)) = some r := H
                        have A28 := Aside0.mk A280
                        clear A280
                        by_cases c29 : t321 = true
                        · subst c29
                          have H1 : (if t320 = (wrap64 (-t305)) then (if t336 = true then (if t335 = 0 then (if t305 < (t298.length : Int) then (some (decide (t305 > (wrap64 (-(t298.length : Int)))))) else (some false)) else (some false)) else (if t305 < (t298.length : Int) then (some (decide (t305 > (wrap64 (-(t298.length : Int)))))) else (some false))) else (some false)) = some r := by rw [if_pos rfl] at H; exact H
                          clear H
                          have H := H1
                          clear H1
                          by_cases c30 : t320 = (wrap64 (-t305))
                          · rw [if_pos c30] at H
                            have c30b0 : (t320 == (wrap64 (-t305))) = true := beq_iff_eq.mpr c30
                            have c30b1 : (t320 != (wrap64 (-t305))) = false := bne_eq_false_iff_eq.mpr c30
                            clear c30
                            by_cases c31 : t336 = true
                            · subst c31
                              have H1 : (if t335 = 0 then (if t305 < (t298.length : Int) then (some (decide (t305 > (wrap64 (-(t298.length : Int)))))) else (some false)) else (some false)) = some r := by rw [if_pos rfl] at H; exact H
                              clear H
                              have H := H1
                              clear H1
                              by_cases c32 : t335 = 0
                              · rw [if_pos c32] at H
                                have c32b0 : (t335 == 0) = true := beq_iff_eq.mpr c32
                                have c32b1 : (t335 != 0) = false := bne_eq_false_iff_eq.mpr c32
                                clear c32
                                by_cases c33 : t305 < (t298.length : Int)
                                · rw [if_pos c33] at H
                                  have c33b0 : decide (t305 < (t298.length : Int)) = true := decide_eq_true c33
                                  clear c33
                                  obtain rfl := Option.some.inj H
                                  obtain ⟨Ao34, co34, eo34⟩ := Kd.R_slice HO_10.out
                                  subst eo34
                                  try go_wp2_with (first | ((with_reducible refine gate_callee (f := 14) rfl ?_); refine goesL_ (some 73) rfl rfl Try.func14 (by kernel_rfl) rfl #[.slice Ao8 t296.length co8, .slice Ao9 t297.length co9, .slice Ao34 x10_2.length co34] rfl (by (try simp only [List.map_toArray, List.map_cons, List.map_nil]); first | done | rfl | (simp only [List.length_drop, List.length_take]; rfl)) ?_; (with_reducible refine (impl_ClimbOf.calls k2 _ _ t296 _ _ t297 _ _ x10_2 t320 true _ ?side1 ?side2 ?side3 ?side4 ?side5 ?side6 A24.out).mono ?_); (case side1 => repeat (first | exact (Kd.R_reads' HO_3.out).2.2 | (with_reducible refine Kd.C_alloc ?_ _) | (with_reducible refine Kd.C_drewN ?_ _) | (with_reducible refine Kd.C_drew ?_))); (case side2 => exact (Kd.R_reads' HO_3.out).2.1); (case side3 => repeat (first | exact (Kd.R_reads' HO_4.out).2.2 | (with_reducible refine Kd.C_alloc ?_ _) | (with_reducible refine Kd.C_drewN ?_ _) | (with_reducible refine Kd.C_drew ?_))); (case side4 => exact (Kd.R_reads' HO_4.out).2.1); (case side5 => repeat (first | exact (Kd.R_reads' HO_10.out).2.2 | (with_reducible refine Kd.C_alloc ?_ _) | (with_reducible refine Kd.C_drewN ?_ _) | (with_reducible refine Kd.C_drew ?_))); (case side6 => exact (Kd.R_reads' HO_10.out).2.1); rintro e w' ⟨rfl, ⟨nd, rfl⟩⟩; refine ⟨_, rfl, ?_⟩))
                                  (try (rw [drewN_self wr]; generalize hq_ : World.drewN wr _ = wr; have hcq_ := fun a_ : Addr => cell_at_q hq_ a_; have hfq_ := fun a_ : Addr => frozen_at_q hq_ a_; have n0_ : Aside0 (Kd.R (Kd.int .i64) 3 wr w.heap.size (fun k_ => some k_ ≠ (.slice Ao8 t296.length co8 : Value).ownBlock ∧ some k_ ≠ (.slice Ao9 t297.length co9 : Value).ownBlock ∧ some k_ ≠ (.slice Ao10 t298.length co10 : Value).ownBlock) (.slice Ao34 x10_2.length co34) x10_2) := ⟨by rw [← hq_]; exact (by (with_reducible repeat (first | apply Kd.R_alloc | apply Kd.R_drewN | apply Kd.R_drew)); exact HO_10.out)⟩; have n1_ : Aside0 (Kd.R (Kd.int .i64) 3 wr w.heap.size (fun k_ => some k_ ≠ (.slice Ao34 x10_2.length co34 : Value).ownBlock ∧ some k_ ≠ (.slice Ao9 t297.length co9 : Value).ownBlock ∧ some k_ ≠ (.slice Ao10 t298.length co10 : Value).ownBlock) (.slice Ao8 t296.length co8) t296) := ⟨by rw [← hq_]; exact (by (with_reducible repeat (first | apply Kd.R_alloc | apply Kd.R_drewN | apply Kd.R_drew)); exact Kd.R_mono HO_3.out (fun _ hk => ⟨hk.2.2, ⟨hk.1, hk.2.1⟩⟩))⟩; have n2_ : Aside0 (Kd.R (Kd.int .i64) 3 wr w.heap.size (fun k_ => some k_ ≠ (.slice Ao34 x10_2.length co34 : Value).ownBlock ∧ some k_ ≠ (.slice Ao8 t296.length co8 : Value).ownBlock ∧ some k_ ≠ (.slice Ao10 t298.length co10 : Value).ownBlock) (.slice Ao9 t297.length co9) t297) := ⟨by rw [← hq_]; exact (by (with_reducible repeat (first | apply Kd.R_alloc | apply Kd.R_drewN | apply Kd.R_drew)); exact Kd.R_mono HO_4.out (fun _ hk => ⟨hk.2.2, ⟨hk.1, hk.2.1⟩⟩))⟩; have n3_ : Aside0 (Kd.R (Kd.int .i64) 3 wr w.heap.size (fun k_ => some k_ ≠ (.slice Ao34 x10_2.length co34 : Value).ownBlock ∧ some k_ ≠ (.slice Ao8 t296.length co8 : Value).ownBlock ∧ some k_ ≠ (.slice Ao9 t297.length co9 : Value).ownBlock) (.slice Ao10 t298.length co10) t298) := ⟨by rw [← hq_]; exact (by (with_reducible repeat (first | apply Kd.R_alloc | apply Kd.R_drewN | apply Kd.R_drew)); exact Kd.R_mono HO_5.out (fun _ hk => ⟨hk.2.2, ⟨hk.1, hk.2.1⟩⟩))⟩; have n4_ : Aside0 (Below w.heap.size w wr) := ⟨by rw [← hq_]; exact (by repeat (first | (with_reducible first | exact HB.out | apply below_alloc | apply pw_below_drewN | apply below_drew1) | exact HB.out))⟩; clear HO_10 HO_3 HO_4 HO_5 HB hq_; have HO_10 := n0_; have HO_3 := n1_; have HO_4 := n2_; have HO_5 := n3_; have HB := n4_; clear n0_ n1_ n2_ n3_ n4_))
                                  have n0_ := Aside0.mk (Kd.R_drew HO_3.out)
                                  have n1_ := Aside0.mk (Kd.R_drew HO_4.out)
                                  have n2_ := Aside0.mk (Kd.R_drew HO_5.out)
                                  have n3_ := Aside0.mk (Kd.R_drew HO_10.out)
                                  have n4_ := Aside0.mk (below_drew1 HB.out)
                                  clear HO_3
                                  clear HO_4
                                  clear HO_5
                                  clear HO_10
                                  clear HB
                                  have HO_3 := n0_
                                  have HO_4 := n1_
                                  have HO_5 := n2_
                                  have HO_10 := n3_
                                  have HB := n4_
                                  clear n0_ n1_ n2_ n3_ n4_
                                  have q36 : (1 : Int) ≤ ((x10_2.length : Int) : Int) := of_decide_eq_true (by first | (with_reducible assumption) | assumption)
                                  obtain ⟨i036, hi036, _, hsz36, _⟩ := info_parts info3
                                  have hroom36 : x10_2.length ≤ co34 := (Kd.R_reads' HO_10.out).2.1
                                  have hC36 : Kd.C (Kd.int .i64) _ Ao34 x10_2.length x10_2 := (Kd.R_reads' HO_10.out).2.2
                                  have hcut36 := cut_from (P := Try.prog) 23 3 .i64 Try.underlying23 hi036 1 hsz36 Ao34 x10_2.length co34 1 (by omega) q36
                                  have hr36 := Kd.C_drop (m := (1 : Int).toNat) (c := co34) hC36 (by omega) hroom36
                                  obtain ⟨A36, hA36⟩ : ∃ A1, A1 = (if co34 = (1 : Int).toNat then Ao34 else (Ao34 : Option Addr).map (·.add ((1 : Int).toNat * 1))) := ⟨_, rfl⟩
                                  obtain ⟨c36, hc36⟩ : ∃ c1, c1 = co34 - (1 : Int).toNat := ⟨_, rfl⟩
                                  have hy36 : y328.length = x10_2.length - (1 : Int).toNat := (by rw [Ny328.out, List.length_drop] <;> omega)
                                  rw [show (x10_2).drop (1 : Int).toNat = y328 from Ny328.out.symm] at hr36
                                  replace hr36 : Kd.C (Kd.int .i64) _ A36 y328.length y328 := (by rw [hA36]; exact hr36)
                                  rw [← hy36, ← hA36, ← hc36] at hcut36
                                  have HR331 := Aside0.mk hr36
                                  have HC331 := Aside0.mk (show y328.length ≤ c36 from by rw [hy36, hc36]; exact Nat.sub_le_sub_right hroom36 _)
                                  clear hr36 hC36 hroom36 hi036 hsz36 hc36
                                  have KY36 := Aside0.mk hy36
                                  have KA36 := Aside0.mk hA36
                                  clear hy36 hA36
                                  have KL36 := Aside0.mk (show 1 ≤ x10_2.length from by omega)
                                  replace q36 := eq_true q36
                                  refine start_ (n := 7) (S := fun w' => True) (ds := []) #[false, false, false, false, false, false, false] (by kernel_rfl) rfl rfl trivial (fun hHeld => ?_)
                                  generalize wr.drew = w35 at HO_3 HO_4 HO_5 HO_10 HB HR331 hHeld ⊢
                                  refine pure_ (i := 1) (N := some 77) (v := ?_) (a' := ?_) #[false, true, false, false, false, false, false] rfl rfl (by kernel_rfl) (fun _ _ _ h => h) (Or.inl ⟨by rfl, ?_⟩) ?_ ?_
                                  rotate_left
                                  · intro w'
                                    go_simp
                                    with_reducible rfl
                                  rotate_left
                                  · simp only [Act.put, List.setIfInBounds_toArray, List.set_cons_zero, List.set_cons_succ, i64_w, i32_w]
                                    rfl
                                  refine pure_ (i := 3) (N := some 79) (v := ?_) (a' := ?_) #[false, true, false, true, false, false, false] rfl rfl (by kernel_rfl) (fun _ _ _ h => h) (Or.inl ⟨by rfl, ?_⟩) ?_ ?_
                                  rotate_left
                                  · intro w'
                                    go_simp
                                    with_reducible rfl
                                  rotate_left
                                  · simp only [Act.put, List.setIfInBounds_toArray, List.set_cons_zero, List.set_cons_succ, i64_w, i32_w]
                                    rfl
                                  refine pure_ (i := 4) (N := some 80) (v := ?_) (a' := ?_) #[false, true, false, true, true, false, false] rfl rfl (by kernel_rfl) (fun _ _ _ h => h) (Or.inl ⟨by rfl, ?_⟩) ?_ ?_
                                  rotate_left
                                  · intro w'
                                    go_simp
                                    with_reducible rfl
                                  rotate_left
                                  · simp only [Act.put, List.setIfInBounds_toArray, List.set_cons_zero, List.set_cons_succ, i64_w, i32_w]
                                    rfl
                                  refine one_ (i := 0) (N := some 76) #[true, true, false, true, true, false, false] rfl rfl (by kernel_rfl) (by decide) (fun K hK => ?_)
                                  refine Kd.R_lit_step (Kd.int .i64) _ 3 ?hg (N := 76) ?hd (xs := ([] : List Int)) (inner := []) (ok := fun _ => True) (okp := fun _ => True) ?hr ?hp (fun _ hk => hk) trivial (Below.refl _ _) (Nat.le_refl _) (by simp) ?_; (case hd => rfl); (case hg => rfl); (case hr => first | (go_simp; done) | (go_simp; rfl)); (case hp => exact (Reps.none _ _))
                                  intro v323 w37 ho38 hb hg_ hnew_
                                  clear hg_ hnew_
                                  (first | rw [← Ny322.out] at ho38 | (simp only [Int.reduceToNat] at ho38; rw [← Ny322.out] at ho38))
                                  have n0_ := Aside0.mk (Kd.R_elder' (by (with_reducible repeat (first | apply Kd.R_alloc | apply Kd.R_drewN | apply Kd.R_drew)); exact HO_3.out) (Kd.R_base ho38) hb)
                                  have n1_ := Aside0.mk (Kd.R_elder' (by (with_reducible repeat (first | apply Kd.R_alloc | apply Kd.R_drewN | apply Kd.R_drew)); exact HO_4.out) (Kd.R_base ho38) hb)
                                  have n2_ := Aside0.mk (Kd.R_elder' (by (with_reducible repeat (first | apply Kd.R_alloc | apply Kd.R_drewN | apply Kd.R_drew)); exact HO_5.out) (Kd.R_base ho38) hb)
                                  have n3_ := Aside0.mk (Kd.R_elder' (by (with_reducible repeat (first | apply Kd.R_alloc | apply Kd.R_drewN | apply Kd.R_drew)); exact HO_10.out) (Kd.R_base ho38) hb)
                                  have n4_ := Aside0.mk (Kd.R_lower (Kd.R_new' (Kd.R_new' (Kd.R_new' (Kd.R_new' ho38 (Kd.R_lt (by (with_reducible repeat (first | apply Kd.R_alloc | apply Kd.R_drewN | apply Kd.R_drew)); exact HO_3.out))) (Kd.R_lt (by (with_reducible repeat (first | apply Kd.R_alloc | apply Kd.R_drewN | apply Kd.R_drew)); exact HO_4.out))) (Kd.R_lt (by (with_reducible repeat (first | apply Kd.R_alloc | apply Kd.R_drewN | apply Kd.R_drew)); exact HO_5.out))) (Kd.R_lt (by (with_reducible repeat (first | apply Kd.R_alloc | apply Kd.R_drewN | apply Kd.R_drew)); exact HO_10.out))) (below_size (by repeat (first | (with_reducible first | exact HB.out | apply below_alloc | apply pw_below_drewN | apply below_drew1) | exact HB.out))))
                                  have n5_ := Aside0.mk (Kd.C_below (by repeat (first | (with_reducible exact HR331.out) | (with_reducible refine Kd.C_alloc ?_ _) | (with_reducible refine Kd.C_drewN ?_ _) | (with_reducible refine Kd.C_drew ?_) | exact HR331.out)) hb)
                                  have n6_ := Aside0.mk (below_step (by repeat (first | (with_reducible first | exact HB.out | apply below_alloc | apply pw_below_drewN | apply below_drew1) | exact HB.out)) hb)
                                  clear HO_3
                                  clear HO_4
                                  clear HO_5
                                  clear HO_10
                                  clear HR331
                                  clear HB
                                  have HO_3 := n0_
                                  have HO_4 := n1_
                                  have HO_5 := n2_
                                  have HO_10 := n3_
                                  have HO324 := n4_
                                  have HR331 := n5_
                                  have HB := n6_
                                  clear n0_ n1_ n2_ n3_ n4_ n5_ n6_
                                  clear hb ho38
                                  refine hK.out _ _ trivial (fun hHeld => ?_)
                                  clear hK K
                                  refine norm_ (a' := ?_) ?_ ?_
                                  rotate_left
                                  · show Act.put _ (some 76) _ = _
                                    simp only [Act.put, List.setIfInBounds_toArray, List.set_cons_zero, List.set_cons_succ, i64_w, i32_w]
                                    rfl
                                  refine one_ (i := 2) (N := some 78) #[true, true, true, true, true, false, false] rfl rfl (by kernel_rfl) (by decide) (fun K hK => ?_)
                                  refine Kd.R_append_rows_step (Kd.int .i64) (w0 := w) w.heap.size (by rfl) (.tmp 76) (.tmp 77) 23 3 (.int .i64 0) 8 rfl Try.underlying23 info3 rfl (by decide) (by omega) v323 y322 t298 _ _ _ (fun k_ => some k_ ≠ (.slice Ao8 t296.length co8 : Value).ownBlock ∧ some k_ ≠ (.slice Ao9 t297.length co9 : Value).ownBlock ∧ some k_ ≠ (.slice Ao10 t298.length co10 : Value).ownBlock ∧ some k_ ≠ (.slice Ao34 x10_2.length co34 : Value).ownBlock) (fun _ => False) rfl rfl ?aO ?aR (fun _ _ h => h) (fun _ h => h.elim) ?aF ?aB ?aS ?aL ?_
                                  (case aR => repeat (first | exact (Kd.R_reads' HO_5.out).2.2 | (with_reducible refine Kd.C_alloc ?_ _) | (with_reducible refine Kd.C_drewN ?_ _) | (with_reducible refine Kd.C_drew ?_)))
                                  (case aB => exact (by repeat (first | (with_reducible first | exact HB.out | apply below_alloc | apply pw_below_drewN | apply below_drew1) | exact HB.out)))
                                  (case aF => exact (fun k_ hk => ⟨Kd.fresh' (Kd.R_lt (by (with_reducible repeat (first | apply Kd.R_alloc | apply Kd.R_drewN | apply Kd.R_drew)); exact HO_3.out)) k_ hk, Kd.fresh' (Kd.R_lt (by (with_reducible repeat (first | apply Kd.R_alloc | apply Kd.R_drewN | apply Kd.R_drew)); exact HO_4.out)) k_ hk, Kd.fresh' (Kd.R_lt (by (with_reducible repeat (first | apply Kd.R_alloc | apply Kd.R_drewN | apply Kd.R_drew)); exact HO_5.out)) k_ hk, Kd.fresh' (Kd.R_lt (by (with_reducible repeat (first | apply Kd.R_alloc | apply Kd.R_drewN | apply Kd.R_drew)); exact HO_10.out)) k_ hk⟩))
                                  (case aO => exact (by (with_reducible repeat (first | apply Kd.R_alloc | apply Kd.R_drewN | apply Kd.R_drew)); exact Kd.R_mono HO324.out (fun _ hk => ⟨hk.1.1.1.2, ⟨hk.1.1.2, ⟨hk.1.2, hk.2⟩⟩⟩)))
                                  (case aS => exact (below_size (by repeat (first | (with_reducible first | exact HB.out | apply below_alloc | apply pw_below_drewN | apply below_drew1) | exact HB.out))))
                                  (case aL => have := LMc25.out; omega)
                                  intro v326 w39 ho hb hg hat
                                  rw [← Ny325.out] at ho
                                  have n0_ := Aside0.mk (Kd.R_after (ok := (fun k_ => some k_ ≠ (.slice Ao9 t297.length co9 : Value).ownBlock ∧ some k_ ≠ (.slice Ao10 t298.length co10 : Value).ownBlock ∧ some k_ ≠ (.slice Ao34 x10_2.length co34 : Value).ownBlock)) (by (with_reducible repeat (first | apply Kd.R_alloc | apply Kd.R_drewN | apply Kd.R_drew)); first | exact HO_3.out | exact Kd.R_mono HO_3.out (fun _ hk => by (obtain ⟨hk1_, hk2_⟩ := hk; (try obtain ⟨ha_, hk1_⟩ := hk1_); (try obtain ⟨hb_, hk1_⟩ := hk1_); (try obtain ⟨hc_, hk1_⟩ := hk1_); (repeat' apply And.intro) <;> assumption))) hg hat)
                                  have n1_ := Aside0.mk (Kd.R_after (ok := (fun k_ => some k_ ≠ (.slice Ao8 t296.length co8 : Value).ownBlock ∧ some k_ ≠ (.slice Ao10 t298.length co10 : Value).ownBlock ∧ some k_ ≠ (.slice Ao34 x10_2.length co34 : Value).ownBlock)) (by (with_reducible repeat (first | apply Kd.R_alloc | apply Kd.R_drewN | apply Kd.R_drew)); first | exact HO_4.out | exact Kd.R_mono HO_4.out (fun _ hk => by (obtain ⟨hk1_, hk2_⟩ := hk; (try obtain ⟨ha_, hk1_⟩ := hk1_); (try obtain ⟨hb_, hk1_⟩ := hk1_); (try obtain ⟨hc_, hk1_⟩ := hk1_); (repeat' apply And.intro) <;> assumption))) hg hat)
                                  have n2_ := Aside0.mk (Kd.R_after (ok := (fun k_ => some k_ ≠ (.slice Ao8 t296.length co8 : Value).ownBlock ∧ some k_ ≠ (.slice Ao9 t297.length co9 : Value).ownBlock ∧ some k_ ≠ (.slice Ao34 x10_2.length co34 : Value).ownBlock)) (by (with_reducible repeat (first | apply Kd.R_alloc | apply Kd.R_drewN | apply Kd.R_drew)); first | exact HO_5.out | exact Kd.R_mono HO_5.out (fun _ hk => by (obtain ⟨hk1_, hk2_⟩ := hk; (try obtain ⟨ha_, hk1_⟩ := hk1_); (try obtain ⟨hb_, hk1_⟩ := hk1_); (try obtain ⟨hc_, hk1_⟩ := hk1_); (repeat' apply And.intro) <;> assumption))) hg hat)
                                  have n3_ := Aside0.mk (Kd.R_after (ok := (fun k_ => some k_ ≠ (.slice Ao8 t296.length co8 : Value).ownBlock ∧ some k_ ≠ (.slice Ao9 t297.length co9 : Value).ownBlock ∧ some k_ ≠ (.slice Ao10 t298.length co10 : Value).ownBlock)) (by (with_reducible repeat (first | apply Kd.R_alloc | apply Kd.R_drewN | apply Kd.R_drew)); first | exact HO_10.out | exact Kd.R_mono HO_10.out (fun _ hk => by (obtain ⟨hk1_, hk2_⟩ := hk; (try obtain ⟨ha_, hk1_⟩ := hk1_); (try obtain ⟨hb_, hk1_⟩ := hk1_); (try obtain ⟨hc_, hk1_⟩ := hk1_); (repeat' apply And.intro) <;> assumption))) hg hat)
                                  have n4_ := Aside0.mk (hb)
                                  have n5_ := Aside0.mk ((show Kd.C (Kd.int .i64) w39 A36 y328.length y328 from by rw [Ny328.out, KA36.out]; exact Kd.C_drop (m := 1) (c := co34) ((Kd.R_reads' (Kd.R_after (ok := (fun k_ => some k_ ≠ (.slice Ao8 t296.length co8 : Value).ownBlock ∧ some k_ ≠ (.slice Ao9 t297.length co9 : Value).ownBlock ∧ some k_ ≠ (.slice Ao10 t298.length co10 : Value).ownBlock)) (by (with_reducible repeat (first | apply Kd.R_alloc | apply Kd.R_drewN | apply Kd.R_drew)); first | exact HO_10.out | exact Kd.R_mono HO_10.out (fun _ hk => by (obtain ⟨hk1_, hk2_⟩ := hk; (try obtain ⟨ha_, hk1_⟩ := hk1_); (try obtain ⟨hb_, hk1_⟩ := hk1_); (try obtain ⟨hc_, hk1_⟩ := hk1_); (repeat' apply And.intro) <;> assumption))) hg hat)).2.2) KL36.out ((Kd.R_reads' (Kd.R_after (ok := (fun k_ => some k_ ≠ (.slice Ao8 t296.length co8 : Value).ownBlock ∧ some k_ ≠ (.slice Ao9 t297.length co9 : Value).ownBlock ∧ some k_ ≠ (.slice Ao10 t298.length co10 : Value).ownBlock)) (by (with_reducible repeat (first | apply Kd.R_alloc | apply Kd.R_drewN | apply Kd.R_drew)); first | exact HO_10.out | exact Kd.R_mono HO_10.out (fun _ hk => by (obtain ⟨hk1_, hk2_⟩ := hk; (try obtain ⟨ha_, hk1_⟩ := hk1_); (try obtain ⟨hb_, hk1_⟩ := hk1_); (try obtain ⟨hc_, hk1_⟩ := hk1_); (repeat' apply And.intro) <;> assumption))) hg hat)).2.1)))
                                  have n6_ := Aside0.mk (ho)
                                  clear HO_3
                                  clear HO_4
                                  clear HO_5
                                  clear HO_10
                                  clear HB
                                  clear HR331
                                  clear HO324
                                  have HO_3 := n0_
                                  have HO_4 := n1_
                                  have HO_5 := n2_
                                  have HO_10 := n3_
                                  have HB := n4_
                                  have HR331 := n5_
                                  have HO327 := n6_
                                  clear n0_ n1_ n2_ n3_ n4_ n5_ n6_
                                  clear ho hb hg hat
                                  refine hK.out _ _ trivial (fun hHeld => ?_)
                                  clear hK K
                                  refine norm_ (a' := ?_) ?_ ?_
                                  rotate_left
                                  · show Act.put _ (some 78) _ = _
                                    simp only [Act.put, List.setIfInBounds_toArray, List.set_cons_zero, List.set_cons_succ, i64_w, i32_w]
                                    rfl
                                  refine one_ (i := 5) (N := some 81) #[true, true, true, true, true, true, false] rfl rfl (by kernel_rfl) (by decide) (fun K hK => ?_)
                                  refine Kd.R_append_rows_step (Kd.int .i64) (w0 := w) w.heap.size (by rfl) (.tmp 78) (.tmp 80) 23 3 (.int .i64 0) 8 rfl Try.underlying23 info3 rfl (by decide) (by omega) v326 y325 y328 _ _ _ (fun k_ => some k_ ≠ (.slice Ao8 t296.length co8 : Value).ownBlock ∧ some k_ ≠ (.slice Ao9 t297.length co9 : Value).ownBlock ∧ some k_ ≠ (.slice Ao10 t298.length co10 : Value).ownBlock ∧ some k_ ≠ (.slice Ao34 x10_2.length co34 : Value).ownBlock) (fun _ => False) rfl rfl ?aO ?aR (fun _ _ h => h) (fun _ h => h.elim) ?aF ?aB ?aS ?aL ?_
                                  (case aR => repeat (first | exact (by repeat (first | (with_reducible exact HR331.out) | (with_reducible refine Kd.C_alloc ?_ _) | (with_reducible refine Kd.C_drewN ?_ _) | (with_reducible refine Kd.C_drew ?_) | exact HR331.out)) | (with_reducible refine Kd.C_alloc ?_ _) | (with_reducible refine Kd.C_drewN ?_ _) | (with_reducible refine Kd.C_drew ?_)))
                                  (case aB => exact (by repeat (first | (with_reducible first | exact HB.out | apply below_alloc | apply pw_below_drewN | apply below_drew1) | exact HB.out)))
                                  (case aF => exact (fun k_ hk => ⟨Kd.fresh' (Kd.R_lt (by (with_reducible repeat (first | apply Kd.R_alloc | apply Kd.R_drewN | apply Kd.R_drew)); exact HO_3.out)) k_ hk, Kd.fresh' (Kd.R_lt (by (with_reducible repeat (first | apply Kd.R_alloc | apply Kd.R_drewN | apply Kd.R_drew)); exact HO_4.out)) k_ hk, Kd.fresh' (Kd.R_lt (by (with_reducible repeat (first | apply Kd.R_alloc | apply Kd.R_drewN | apply Kd.R_drew)); exact HO_5.out)) k_ hk, Kd.fresh' (Kd.R_lt (by (with_reducible repeat (first | apply Kd.R_alloc | apply Kd.R_drewN | apply Kd.R_drew)); exact HO_10.out)) k_ hk⟩))
                                  (case aO => exact (by (with_reducible repeat (first | apply Kd.R_alloc | apply Kd.R_drewN | apply Kd.R_drew)); exact HO327.out))
                                  (case aS => exact (below_size (by repeat (first | (with_reducible first | exact HB.out | apply below_alloc | apply pw_below_drewN | apply below_drew1) | exact HB.out))))
                                  (case aL => have := LMc27.out; omega)
                                  intro v333 w40 ho hb hg hat
                                  rw [← Ny332.out] at ho
                                  have n0_ := Aside0.mk (Kd.R_after (ok := (fun k_ => some k_ ≠ (.slice Ao9 t297.length co9 : Value).ownBlock ∧ some k_ ≠ (.slice Ao10 t298.length co10 : Value).ownBlock ∧ some k_ ≠ (.slice Ao34 x10_2.length co34 : Value).ownBlock)) (by (with_reducible repeat (first | apply Kd.R_alloc | apply Kd.R_drewN | apply Kd.R_drew)); first | exact HO_3.out | exact Kd.R_mono HO_3.out (fun _ hk => by (obtain ⟨hk1_, hk2_⟩ := hk; (try obtain ⟨ha_, hk1_⟩ := hk1_); (try obtain ⟨hb_, hk1_⟩ := hk1_); (try obtain ⟨hc_, hk1_⟩ := hk1_); (repeat' apply And.intro) <;> assumption))) hg hat)
                                  have n1_ := Aside0.mk (Kd.R_after (ok := (fun k_ => some k_ ≠ (.slice Ao8 t296.length co8 : Value).ownBlock ∧ some k_ ≠ (.slice Ao10 t298.length co10 : Value).ownBlock ∧ some k_ ≠ (.slice Ao34 x10_2.length co34 : Value).ownBlock)) (by (with_reducible repeat (first | apply Kd.R_alloc | apply Kd.R_drewN | apply Kd.R_drew)); first | exact HO_4.out | exact Kd.R_mono HO_4.out (fun _ hk => by (obtain ⟨hk1_, hk2_⟩ := hk; (try obtain ⟨ha_, hk1_⟩ := hk1_); (try obtain ⟨hb_, hk1_⟩ := hk1_); (try obtain ⟨hc_, hk1_⟩ := hk1_); (repeat' apply And.intro) <;> assumption))) hg hat)
                                  have n2_ := Aside0.mk (Kd.R_after (ok := (fun k_ => some k_ ≠ (.slice Ao8 t296.length co8 : Value).ownBlock ∧ some k_ ≠ (.slice Ao9 t297.length co9 : Value).ownBlock ∧ some k_ ≠ (.slice Ao34 x10_2.length co34 : Value).ownBlock)) (by (with_reducible repeat (first | apply Kd.R_alloc | apply Kd.R_drewN | apply Kd.R_drew)); first | exact HO_5.out | exact Kd.R_mono HO_5.out (fun _ hk => by (obtain ⟨hk1_, hk2_⟩ := hk; (try obtain ⟨ha_, hk1_⟩ := hk1_); (try obtain ⟨hb_, hk1_⟩ := hk1_); (try obtain ⟨hc_, hk1_⟩ := hk1_); (repeat' apply And.intro) <;> assumption))) hg hat)
                                  have n3_ := Aside0.mk (Kd.R_after (ok := (fun k_ => some k_ ≠ (.slice Ao8 t296.length co8 : Value).ownBlock ∧ some k_ ≠ (.slice Ao9 t297.length co9 : Value).ownBlock ∧ some k_ ≠ (.slice Ao10 t298.length co10 : Value).ownBlock)) (by (with_reducible repeat (first | apply Kd.R_alloc | apply Kd.R_drewN | apply Kd.R_drew)); first | exact HO_10.out | exact Kd.R_mono HO_10.out (fun _ hk => by (obtain ⟨hk1_, hk2_⟩ := hk; (try obtain ⟨ha_, hk1_⟩ := hk1_); (try obtain ⟨hb_, hk1_⟩ := hk1_); (try obtain ⟨hc_, hk1_⟩ := hk1_); (repeat' apply And.intro) <;> assumption))) hg hat)
                                  have n4_ := Aside0.mk (hb)
                                  have n5_ := Aside0.mk ((show Kd.C (Kd.int .i64) w40 A36 y328.length y328 from by rw [Ny328.out, KA36.out]; exact Kd.C_drop (m := 1) (c := co34) ((Kd.R_reads' (Kd.R_after (ok := (fun k_ => some k_ ≠ (.slice Ao8 t296.length co8 : Value).ownBlock ∧ some k_ ≠ (.slice Ao9 t297.length co9 : Value).ownBlock ∧ some k_ ≠ (.slice Ao10 t298.length co10 : Value).ownBlock)) (by (with_reducible repeat (first | apply Kd.R_alloc | apply Kd.R_drewN | apply Kd.R_drew)); first | exact HO_10.out | exact Kd.R_mono HO_10.out (fun _ hk => by (obtain ⟨hk1_, hk2_⟩ := hk; (try obtain ⟨ha_, hk1_⟩ := hk1_); (try obtain ⟨hb_, hk1_⟩ := hk1_); (try obtain ⟨hc_, hk1_⟩ := hk1_); (repeat' apply And.intro) <;> assumption))) hg hat)).2.2) KL36.out ((Kd.R_reads' (Kd.R_after (ok := (fun k_ => some k_ ≠ (.slice Ao8 t296.length co8 : Value).ownBlock ∧ some k_ ≠ (.slice Ao9 t297.length co9 : Value).ownBlock ∧ some k_ ≠ (.slice Ao10 t298.length co10 : Value).ownBlock)) (by (with_reducible repeat (first | apply Kd.R_alloc | apply Kd.R_drewN | apply Kd.R_drew)); first | exact HO_10.out | exact Kd.R_mono HO_10.out (fun _ hk => by (obtain ⟨hk1_, hk2_⟩ := hk; (try obtain ⟨ha_, hk1_⟩ := hk1_); (try obtain ⟨hb_, hk1_⟩ := hk1_); (try obtain ⟨hc_, hk1_⟩ := hk1_); (repeat' apply And.intro) <;> assumption))) hg hat)).2.1)))
                                  have n6_ := Aside0.mk (ho)
                                  clear HO_3
                                  clear HO_4
                                  clear HO_5
                                  clear HO_10
                                  clear HB
                                  clear HR331
                                  clear HO327
                                  have HO_3 := n0_
                                  have HO_4 := n1_
                                  have HO_5 := n2_
                                  have HO_10 := n3_
                                  have HB := n4_
                                  have HR331 := n5_
                                  have HO334 := n6_
                                  clear n0_ n1_ n2_ n3_ n4_ n5_ n6_
                                  clear ho hb hg hat
                                  refine hK.out _ _ trivial (fun hHeld => ?_)
                                  clear hK K
                                  refine norm_ (a' := ?_) ?_ ?_
                                  rotate_left
                                  · show Act.put _ (some 81) _ = _
                                    simp only [Act.put, List.setIfInBounds_toArray, List.set_cons_zero, List.set_cons_succ, i64_w, i32_w]
                                    rfl
                                  refine pure_ (i := 6) (N := some 14) (v := ?_) (a' := ?_) #[true, true, true, true, true, true, true] rfl rfl (by kernel_rfl) (fun _ _ _ h => h) (Or.inl ⟨by rfl, ?_⟩) ?_ ?_
                                  rotate_left
                                  · intro w'
                                    go_simp
                                    with_reducible rfl
                                  rotate_left
                                  · simp only [Act.put, List.setIfInBounds_toArray, List.set_cons_zero, List.set_cons_succ, i64_w, i32_w]
                                    rfl
                                  refine done_ (by kernel_rfl) ?_
                                  obtain ⟨Ao41, co41, eo41⟩ := Kd.R_slice HO334.out
                                  subst eo41
                                  try go_wp2_with (first | ((with_reducible refine gate_callee (f := 14) rfl ?_); refine goesL_ (some 86) rfl rfl Try.func14 (by kernel_rfl) rfl #[.slice Ao8 t296.length co8, .slice Ao9 t297.length co9, .slice Ao41 y332.length co41] rfl (by (try simp only [List.map_toArray, List.map_cons, List.map_nil]); first | done | rfl | (simp only [List.length_drop, List.length_take]; rfl)) ?_; (with_reducible refine (impl_ClimbOf.calls k2 _ _ t296 _ _ t297 _ _ y332 t335 true _ ?side1 ?side2 ?side3 ?side4 ?side5 ?side6 A28.out).mono ?_); (case side1 => repeat (first | exact (Kd.R_reads' HO_3.out).2.2 | (with_reducible refine Kd.C_alloc ?_ _) | (with_reducible refine Kd.C_drewN ?_ _) | (with_reducible refine Kd.C_drew ?_))); (case side2 => exact (Kd.R_reads' HO_3.out).2.1); (case side3 => repeat (first | exact (Kd.R_reads' HO_4.out).2.2 | (with_reducible refine Kd.C_alloc ?_ _) | (with_reducible refine Kd.C_drewN ?_ _) | (with_reducible refine Kd.C_drew ?_))); (case side4 => exact (Kd.R_reads' HO_4.out).2.1); (case side5 => repeat (first | exact (Kd.R_reads' HO334.out).2.2 | (with_reducible refine Kd.C_alloc ?_ _) | (with_reducible refine Kd.C_drewN ?_ _) | (with_reducible refine Kd.C_drew ?_))); (case side6 => exact (Kd.R_reads' HO334.out).2.1); rintro e w' ⟨rfl, ⟨nd, rfl⟩⟩; refine ⟨_, rfl, ?_⟩))
                                  go_ret
                                  exact ⟨by first | rfl | (simp [errW_none, errW_some] <;> rfl) | (simp [*, errW_none, errW_some] <;> rfl), by repeat (first | (with_reducible first | exact HB.out | apply below_alloc | apply pw_below_drewN | apply below_drew1) | exact HB.out)⟩
                                · rw [if_neg c33] at H
                                  have c33b0 : decide (t305 < (t298.length : Int)) = false := decide_eq_false c33
                                  clear c33
                                  obtain rfl := Option.some.inj H
                                  obtain ⟨Ao42, co42, eo42⟩ := Kd.R_slice HO_10.out
                                  subst eo42
                                  try go_wp2_with (first | ((with_reducible refine gate_callee (f := 14) rfl ?_); refine goesL_ (some 73) rfl rfl Try.func14 (by kernel_rfl) rfl #[.slice Ao8 t296.length co8, .slice Ao9 t297.length co9, .slice Ao42 x10_2.length co42] rfl (by (try simp only [List.map_toArray, List.map_cons, List.map_nil]); first | done | rfl | (simp only [List.length_drop, List.length_take]; rfl)) ?_; (with_reducible refine (impl_ClimbOf.calls k2 _ _ t296 _ _ t297 _ _ x10_2 t320 true _ ?side1 ?side2 ?side3 ?side4 ?side5 ?side6 A24.out).mono ?_); (case side1 => repeat (first | exact (Kd.R_reads' HO_3.out).2.2 | (with_reducible refine Kd.C_alloc ?_ _) | (with_reducible refine Kd.C_drewN ?_ _) | (with_reducible refine Kd.C_drew ?_))); (case side2 => exact (Kd.R_reads' HO_3.out).2.1); (case side3 => repeat (first | exact (Kd.R_reads' HO_4.out).2.2 | (with_reducible refine Kd.C_alloc ?_ _) | (with_reducible refine Kd.C_drewN ?_ _) | (with_reducible refine Kd.C_drew ?_))); (case side4 => exact (Kd.R_reads' HO_4.out).2.1); (case side5 => repeat (first | exact (Kd.R_reads' HO_10.out).2.2 | (with_reducible refine Kd.C_alloc ?_ _) | (with_reducible refine Kd.C_drewN ?_ _) | (with_reducible refine Kd.C_drew ?_))); (case side6 => exact (Kd.R_reads' HO_10.out).2.1); rintro e w' ⟨rfl, ⟨nd, rfl⟩⟩; refine ⟨_, rfl, ?_⟩))
                                  (try (rw [drewN_self wr]; generalize hq_ : World.drewN wr _ = wr; have hcq_ := fun a_ : Addr => cell_at_q hq_ a_; have hfq_ := fun a_ : Addr => frozen_at_q hq_ a_; have n0_ : Aside0 (Kd.R (Kd.int .i64) 3 wr w.heap.size (fun k_ => some k_ ≠ (.slice Ao8 t296.length co8 : Value).ownBlock ∧ some k_ ≠ (.slice Ao9 t297.length co9 : Value).ownBlock ∧ some k_ ≠ (.slice Ao10 t298.length co10 : Value).ownBlock) (.slice Ao42 x10_2.length co42) x10_2) := ⟨by rw [← hq_]; exact (by (with_reducible repeat (first | apply Kd.R_alloc | apply Kd.R_drewN | apply Kd.R_drew)); exact HO_10.out)⟩; have n1_ : Aside0 (Kd.R (Kd.int .i64) 3 wr w.heap.size (fun k_ => some k_ ≠ (.slice Ao42 x10_2.length co42 : Value).ownBlock ∧ some k_ ≠ (.slice Ao9 t297.length co9 : Value).ownBlock ∧ some k_ ≠ (.slice Ao10 t298.length co10 : Value).ownBlock) (.slice Ao8 t296.length co8) t296) := ⟨by rw [← hq_]; exact (by (with_reducible repeat (first | apply Kd.R_alloc | apply Kd.R_drewN | apply Kd.R_drew)); exact Kd.R_mono HO_3.out (fun _ hk => ⟨hk.2.2, ⟨hk.1, hk.2.1⟩⟩))⟩; have n2_ : Aside0 (Kd.R (Kd.int .i64) 3 wr w.heap.size (fun k_ => some k_ ≠ (.slice Ao42 x10_2.length co42 : Value).ownBlock ∧ some k_ ≠ (.slice Ao8 t296.length co8 : Value).ownBlock ∧ some k_ ≠ (.slice Ao10 t298.length co10 : Value).ownBlock) (.slice Ao9 t297.length co9) t297) := ⟨by rw [← hq_]; exact (by (with_reducible repeat (first | apply Kd.R_alloc | apply Kd.R_drewN | apply Kd.R_drew)); exact Kd.R_mono HO_4.out (fun _ hk => ⟨hk.2.2, ⟨hk.1, hk.2.1⟩⟩))⟩; have n3_ : Aside0 (Kd.R (Kd.int .i64) 3 wr w.heap.size (fun k_ => some k_ ≠ (.slice Ao42 x10_2.length co42 : Value).ownBlock ∧ some k_ ≠ (.slice Ao8 t296.length co8 : Value).ownBlock ∧ some k_ ≠ (.slice Ao9 t297.length co9 : Value).ownBlock) (.slice Ao10 t298.length co10) t298) := ⟨by rw [← hq_]; exact (by (with_reducible repeat (first | apply Kd.R_alloc | apply Kd.R_drewN | apply Kd.R_drew)); exact Kd.R_mono HO_5.out (fun _ hk => ⟨hk.2.2, ⟨hk.1, hk.2.1⟩⟩))⟩; have n4_ : Aside0 (Below w.heap.size w wr) := ⟨by rw [← hq_]; exact (by repeat (first | (with_reducible first | exact HB.out | apply below_alloc | apply pw_below_drewN | apply below_drew1) | exact HB.out))⟩; clear HO_10 HO_3 HO_4 HO_5 HB hq_; have HO_10 := n0_; have HO_3 := n1_; have HO_4 := n2_; have HO_5 := n3_; have HB := n4_; clear n0_ n1_ n2_ n3_ n4_))
                                  have n0_ := Aside0.mk (Kd.R_drew HO_3.out)
                                  have n1_ := Aside0.mk (Kd.R_drew HO_4.out)
                                  have n2_ := Aside0.mk (Kd.R_drew HO_5.out)
                                  have n3_ := Aside0.mk (Kd.R_drew HO_10.out)
                                  have n4_ := Aside0.mk (below_drew1 HB.out)
                                  clear HO_3
                                  clear HO_4
                                  clear HO_5
                                  clear HO_10
                                  clear HB
                                  have HO_3 := n0_
                                  have HO_4 := n1_
                                  have HO_5 := n2_
                                  have HO_10 := n3_
                                  have HB := n4_
                                  clear n0_ n1_ n2_ n3_ n4_
                                  have q44 : (1 : Int) ≤ ((x10_2.length : Int) : Int) := of_decide_eq_true (by first | (with_reducible assumption) | assumption)
                                  obtain ⟨i044, hi044, _, hsz44, _⟩ := info_parts info3
                                  have hroom44 : x10_2.length ≤ co42 := (Kd.R_reads' HO_10.out).2.1
                                  have hC44 : Kd.C (Kd.int .i64) _ Ao42 x10_2.length x10_2 := (Kd.R_reads' HO_10.out).2.2
                                  have hcut44 := cut_from (P := Try.prog) 23 3 .i64 Try.underlying23 hi044 1 hsz44 Ao42 x10_2.length co42 1 (by omega) q44
                                  have hr44 := Kd.C_drop (m := (1 : Int).toNat) (c := co42) hC44 (by omega) hroom44
                                  obtain ⟨A44, hA44⟩ : ∃ A1, A1 = (if co42 = (1 : Int).toNat then Ao42 else (Ao42 : Option Addr).map (·.add ((1 : Int).toNat * 1))) := ⟨_, rfl⟩
                                  obtain ⟨c44, hc44⟩ : ∃ c1, c1 = co42 - (1 : Int).toNat := ⟨_, rfl⟩
                                  have hy44 : y328.length = x10_2.length - (1 : Int).toNat := (by rw [Ny328.out, List.length_drop] <;> omega)
                                  rw [show (x10_2).drop (1 : Int).toNat = y328 from Ny328.out.symm] at hr44
                                  replace hr44 : Kd.C (Kd.int .i64) _ A44 y328.length y328 := (by rw [hA44]; exact hr44)
                                  rw [← hy44, ← hA44, ← hc44] at hcut44
                                  have HR331 := Aside0.mk hr44
                                  have HC331 := Aside0.mk (show y328.length ≤ c44 from by rw [hy44, hc44]; exact Nat.sub_le_sub_right hroom44 _)
                                  clear hr44 hC44 hroom44 hi044 hsz44 hc44
                                  have KY44 := Aside0.mk hy44
                                  have KA44 := Aside0.mk hA44
                                  clear hy44 hA44
                                  have KL44 := Aside0.mk (show 1 ≤ x10_2.length from by omega)
                                  replace q44 := eq_true q44
                                  refine start_ (n := 7) (S := fun w' => True) (ds := []) #[false, false, false, false, false, false, false] (by kernel_rfl) rfl rfl trivial (fun hHeld => ?_)
                                  generalize wr.drew = w43 at HO_3 HO_4 HO_5 HO_10 HB HR331 hHeld ⊢
                                  refine pure_ (i := 1) (N := some 77) (v := ?_) (a' := ?_) #[false, true, false, false, false, false, false] rfl rfl (by kernel_rfl) (fun _ _ _ h => h) (Or.inl ⟨by rfl, ?_⟩) ?_ ?_
                                  rotate_left
                                  · intro w'
                                    go_simp
                                    with_reducible rfl
                                  rotate_left
                                  · simp only [Act.put, List.setIfInBounds_toArray, List.set_cons_zero, List.set_cons_succ, i64_w, i32_w]
                                    rfl
                                  refine pure_ (i := 3) (N := some 79) (v := ?_) (a' := ?_) #[false, true, false, true, false, false, false] rfl rfl (by kernel_rfl) (fun _ _ _ h => h) (Or.inl ⟨by rfl, ?_⟩) ?_ ?_
                                  rotate_left
                                  · intro w'
                                    go_simp
                                    with_reducible rfl
                                  rotate_left
                                  · simp only [Act.put, List.setIfInBounds_toArray, List.set_cons_zero, List.set_cons_succ, i64_w, i32_w]
                                    rfl
                                  refine pure_ (i := 4) (N := some 80) (v := ?_) (a' := ?_) #[false, true, false, true, true, false, false] rfl rfl (by kernel_rfl) (fun _ _ _ h => h) (Or.inl ⟨by rfl, ?_⟩) ?_ ?_
                                  rotate_left
                                  · intro w'
                                    go_simp
                                    with_reducible rfl
                                  rotate_left
                                  · simp only [Act.put, List.setIfInBounds_toArray, List.set_cons_zero, List.set_cons_succ, i64_w, i32_w]
                                    rfl
                                  refine one_ (i := 0) (N := some 76) #[true, true, false, true, true, false, false] rfl rfl (by kernel_rfl) (by decide) (fun K hK => ?_)
                                  refine Kd.R_lit_step (Kd.int .i64) _ 3 ?hg (N := 76) ?hd (xs := ([] : List Int)) (inner := []) (ok := fun _ => True) (okp := fun _ => True) ?hr ?hp (fun _ hk => hk) trivial (Below.refl _ _) (Nat.le_refl _) (by simp) ?_; (case hd => rfl); (case hg => rfl); (case hr => first | (go_simp; done) | (go_simp; rfl)); (case hp => exact (Reps.none _ _))
                                  intro v323 w45 ho46 hb hg_ hnew_
                                  clear hg_ hnew_
                                  (first | rw [← Ny322.out] at ho46 | (simp only [Int.reduceToNat] at ho46; rw [← Ny322.out] at ho46))
                                  have n0_ := Aside0.mk (Kd.R_elder' (by (with_reducible repeat (first | apply Kd.R_alloc | apply Kd.R_drewN | apply Kd.R_drew)); exact HO_3.out) (Kd.R_base ho46) hb)
                                  have n1_ := Aside0.mk (Kd.R_elder' (by (with_reducible repeat (first | apply Kd.R_alloc | apply Kd.R_drewN | apply Kd.R_drew)); exact HO_4.out) (Kd.R_base ho46) hb)
                                  have n2_ := Aside0.mk (Kd.R_elder' (by (with_reducible repeat (first | apply Kd.R_alloc | apply Kd.R_drewN | apply Kd.R_drew)); exact HO_5.out) (Kd.R_base ho46) hb)
                                  have n3_ := Aside0.mk (Kd.R_elder' (by (with_reducible repeat (first | apply Kd.R_alloc | apply Kd.R_drewN | apply Kd.R_drew)); exact HO_10.out) (Kd.R_base ho46) hb)
                                  have n4_ := Aside0.mk (Kd.R_lower (Kd.R_new' (Kd.R_new' (Kd.R_new' (Kd.R_new' ho46 (Kd.R_lt (by (with_reducible repeat (first | apply Kd.R_alloc | apply Kd.R_drewN | apply Kd.R_drew)); exact HO_3.out))) (Kd.R_lt (by (with_reducible repeat (first | apply Kd.R_alloc | apply Kd.R_drewN | apply Kd.R_drew)); exact HO_4.out))) (Kd.R_lt (by (with_reducible repeat (first | apply Kd.R_alloc | apply Kd.R_drewN | apply Kd.R_drew)); exact HO_5.out))) (Kd.R_lt (by (with_reducible repeat (first | apply Kd.R_alloc | apply Kd.R_drewN | apply Kd.R_drew)); exact HO_10.out))) (below_size (by repeat (first | (with_reducible first | exact HB.out | apply below_alloc | apply pw_below_drewN | apply below_drew1) | exact HB.out))))
                                  have n5_ := Aside0.mk (Kd.C_below (by repeat (first | (with_reducible exact HR331.out) | (with_reducible refine Kd.C_alloc ?_ _) | (with_reducible refine Kd.C_drewN ?_ _) | (with_reducible refine Kd.C_drew ?_) | exact HR331.out)) hb)
                                  have n6_ := Aside0.mk (below_step (by repeat (first | (with_reducible first | exact HB.out | apply below_alloc | apply pw_below_drewN | apply below_drew1) | exact HB.out)) hb)
                                  clear HO_3
                                  clear HO_4
                                  clear HO_5
                                  clear HO_10
                                  clear HR331
                                  clear HB
                                  have HO_3 := n0_
                                  have HO_4 := n1_
                                  have HO_5 := n2_
                                  have HO_10 := n3_
                                  have HO324 := n4_
                                  have HR331 := n5_
                                  have HB := n6_
                                  clear n0_ n1_ n2_ n3_ n4_ n5_ n6_
                                  clear hb ho46
                                  refine hK.out _ _ trivial (fun hHeld => ?_)
                                  clear hK K
                                  refine norm_ (a' := ?_) ?_ ?_
                                  rotate_left
                                  · show Act.put _ (some 76) _ = _
                                    simp only [Act.put, List.setIfInBounds_toArray, List.set_cons_zero, List.set_cons_succ, i64_w, i32_w]
                                    rfl
                                  refine one_ (i := 2) (N := some 78) #[true, true, true, true, true, false, false] rfl rfl (by kernel_rfl) (by decide) (fun K hK => ?_)
                                  refine Kd.R_append_rows_step (Kd.int .i64) (w0 := w) w.heap.size (by rfl) (.tmp 76) (.tmp 77) 23 3 (.int .i64 0) 8 rfl Try.underlying23 info3 rfl (by decide) (by omega) v323 y322 t298 _ _ _ (fun k_ => some k_ ≠ (.slice Ao8 t296.length co8 : Value).ownBlock ∧ some k_ ≠ (.slice Ao9 t297.length co9 : Value).ownBlock ∧ some k_ ≠ (.slice Ao10 t298.length co10 : Value).ownBlock ∧ some k_ ≠ (.slice Ao42 x10_2.length co42 : Value).ownBlock) (fun _ => False) rfl rfl ?aO ?aR (fun _ _ h => h) (fun _ h => h.elim) ?aF ?aB ?aS ?aL ?_
                                  (case aR => repeat (first | exact (Kd.R_reads' HO_5.out).2.2 | (with_reducible refine Kd.C_alloc ?_ _) | (with_reducible refine Kd.C_drewN ?_ _) | (with_reducible refine Kd.C_drew ?_)))
                                  (case aB => exact (by repeat (first | (with_reducible first | exact HB.out | apply below_alloc | apply pw_below_drewN | apply below_drew1) | exact HB.out)))
                                  (case aF => exact (fun k_ hk => ⟨Kd.fresh' (Kd.R_lt (by (with_reducible repeat (first | apply Kd.R_alloc | apply Kd.R_drewN | apply Kd.R_drew)); exact HO_3.out)) k_ hk, Kd.fresh' (Kd.R_lt (by (with_reducible repeat (first | apply Kd.R_alloc | apply Kd.R_drewN | apply Kd.R_drew)); exact HO_4.out)) k_ hk, Kd.fresh' (Kd.R_lt (by (with_reducible repeat (first | apply Kd.R_alloc | apply Kd.R_drewN | apply Kd.R_drew)); exact HO_5.out)) k_ hk, Kd.fresh' (Kd.R_lt (by (with_reducible repeat (first | apply Kd.R_alloc | apply Kd.R_drewN | apply Kd.R_drew)); exact HO_10.out)) k_ hk⟩))
                                  (case aO => exact (by (with_reducible repeat (first | apply Kd.R_alloc | apply Kd.R_drewN | apply Kd.R_drew)); exact Kd.R_mono HO324.out (fun _ hk => ⟨hk.1.1.1.2, ⟨hk.1.1.2, ⟨hk.1.2, hk.2⟩⟩⟩)))
                                  (case aS => exact (below_size (by repeat (first | (with_reducible first | exact HB.out | apply below_alloc | apply pw_below_drewN | apply below_drew1) | exact HB.out))))
                                  (case aL => have := LMc25.out; omega)
                                  intro v326 w47 ho hb hg hat
                                  rw [← Ny325.out] at ho
                                  have n0_ := Aside0.mk (Kd.R_after (ok := (fun k_ => some k_ ≠ (.slice Ao9 t297.length co9 : Value).ownBlock ∧ some k_ ≠ (.slice Ao10 t298.length co10 : Value).ownBlock ∧ some k_ ≠ (.slice Ao42 x10_2.length co42 : Value).ownBlock)) (by (with_reducible repeat (first | apply Kd.R_alloc | apply Kd.R_drewN | apply Kd.R_drew)); first | exact HO_3.out | exact Kd.R_mono HO_3.out (fun _ hk => by (obtain ⟨hk1_, hk2_⟩ := hk; (try obtain ⟨ha_, hk1_⟩ := hk1_); (try obtain ⟨hb_, hk1_⟩ := hk1_); (try obtain ⟨hc_, hk1_⟩ := hk1_); (repeat' apply And.intro) <;> assumption))) hg hat)
                                  have n1_ := Aside0.mk (Kd.R_after (ok := (fun k_ => some k_ ≠ (.slice Ao8 t296.length co8 : Value).ownBlock ∧ some k_ ≠ (.slice Ao10 t298.length co10 : Value).ownBlock ∧ some k_ ≠ (.slice Ao42 x10_2.length co42 : Value).ownBlock)) (by (with_reducible repeat (first | apply Kd.R_alloc | apply Kd.R_drewN | apply Kd.R_drew)); first | exact HO_4.out | exact Kd.R_mono HO_4.out (fun _ hk => by (obtain ⟨hk1_, hk2_⟩ := hk; (try obtain ⟨ha_, hk1_⟩ := hk1_); (try obtain ⟨hb_, hk1_⟩ := hk1_); (try obtain ⟨hc_, hk1_⟩ := hk1_); (repeat' apply And.intro) <;> assumption))) hg hat)
                                  have n2_ := Aside0.mk (Kd.R_after (ok := (fun k_ => some k_ ≠ (.slice Ao8 t296.length co8 : Value).ownBlock ∧ some k_ ≠ (.slice Ao9 t297.length co9 : Value).ownBlock ∧ some k_ ≠ (.slice Ao42 x10_2.length co42 : Value).ownBlock)) (by (with_reducible repeat (first | apply Kd.R_alloc | apply Kd.R_drewN | apply Kd.R_drew)); first | exact HO_5.out | exact Kd.R_mono HO_5.out (fun _ hk => by (obtain ⟨hk1_, hk2_⟩ := hk; (try obtain ⟨ha_, hk1_⟩ := hk1_); (try obtain ⟨hb_, hk1_⟩ := hk1_); (try obtain ⟨hc_, hk1_⟩ := hk1_); (repeat' apply And.intro) <;> assumption))) hg hat)
                                  have n3_ := Aside0.mk (Kd.R_after (ok := (fun k_ => some k_ ≠ (.slice Ao8 t296.length co8 : Value).ownBlock ∧ some k_ ≠ (.slice Ao9 t297.length co9 : Value).ownBlock ∧ some k_ ≠ (.slice Ao10 t298.length co10 : Value).ownBlock)) (by (with_reducible repeat (first | apply Kd.R_alloc | apply Kd.R_drewN | apply Kd.R_drew)); first | exact HO_10.out | exact Kd.R_mono HO_10.out (fun _ hk => by (obtain ⟨hk1_, hk2_⟩ := hk; (try obtain ⟨ha_, hk1_⟩ := hk1_); (try obtain ⟨hb_, hk1_⟩ := hk1_); (try obtain ⟨hc_, hk1_⟩ := hk1_); (repeat' apply And.intro) <;> assumption))) hg hat)
                                  have n4_ := Aside0.mk (hb)
                                  have n5_ := Aside0.mk ((show Kd.C (Kd.int .i64) w47 A44 y328.length y328 from by rw [Ny328.out, KA44.out]; exact Kd.C_drop (m := 1) (c := co42) ((Kd.R_reads' (Kd.R_after (ok := (fun k_ => some k_ ≠ (.slice Ao8 t296.length co8 : Value).ownBlock ∧ some k_ ≠ (.slice Ao9 t297.length co9 : Value).ownBlock ∧ some k_ ≠ (.slice Ao10 t298.length co10 : Value).ownBlock)) (by (with_reducible repeat (first | apply Kd.R_alloc | apply Kd.R_drewN | apply Kd.R_drew)); first | exact HO_10.out | exact Kd.R_mono HO_10.out (fun _ hk => by (obtain ⟨hk1_, hk2_⟩ := hk; (try obtain ⟨ha_, hk1_⟩ := hk1_); (try obtain ⟨hb_, hk1_⟩ := hk1_); (try obtain ⟨hc_, hk1_⟩ := hk1_); (repeat' apply And.intro) <;> assumption))) hg hat)).2.2) KL44.out ((Kd.R_reads' (Kd.R_after (ok := (fun k_ => some k_ ≠ (.slice Ao8 t296.length co8 : Value).ownBlock ∧ some k_ ≠ (.slice Ao9 t297.length co9 : Value).ownBlock ∧ some k_ ≠ (.slice Ao10 t298.length co10 : Value).ownBlock)) (by (with_reducible repeat (first | apply Kd.R_alloc | apply Kd.R_drewN | apply Kd.R_drew)); first | exact HO_10.out | exact Kd.R_mono HO_10.out (fun _ hk => by (obtain ⟨hk1_, hk2_⟩ := hk; (try obtain ⟨ha_, hk1_⟩ := hk1_); (try obtain ⟨hb_, hk1_⟩ := hk1_); (try obtain ⟨hc_, hk1_⟩ := hk1_); (repeat' apply And.intro) <;> assumption))) hg hat)).2.1)))
                                  have n6_ := Aside0.mk (ho)
                                  clear HO_3
                                  clear HO_4
                                  clear HO_5
                                  clear HO_10
                                  clear HB
                                  clear HR331
                                  clear HO324
                                  have HO_3 := n0_
                                  have HO_4 := n1_
                                  have HO_5 := n2_
                                  have HO_10 := n3_
                                  have HB := n4_
                                  have HR331 := n5_
                                  have HO327 := n6_
                                  clear n0_ n1_ n2_ n3_ n4_ n5_ n6_
                                  clear ho hb hg hat
                                  refine hK.out _ _ trivial (fun hHeld => ?_)
                                  clear hK K
                                  refine norm_ (a' := ?_) ?_ ?_
                                  rotate_left
                                  · show Act.put _ (some 78) _ = _
                                    simp only [Act.put, List.setIfInBounds_toArray, List.set_cons_zero, List.set_cons_succ, i64_w, i32_w]
                                    rfl
                                  refine one_ (i := 5) (N := some 81) #[true, true, true, true, true, true, false] rfl rfl (by kernel_rfl) (by decide) (fun K hK => ?_)
                                  refine Kd.R_append_rows_step (Kd.int .i64) (w0 := w) w.heap.size (by rfl) (.tmp 78) (.tmp 80) 23 3 (.int .i64 0) 8 rfl Try.underlying23 info3 rfl (by decide) (by omega) v326 y325 y328 _ _ _ (fun k_ => some k_ ≠ (.slice Ao8 t296.length co8 : Value).ownBlock ∧ some k_ ≠ (.slice Ao9 t297.length co9 : Value).ownBlock ∧ some k_ ≠ (.slice Ao10 t298.length co10 : Value).ownBlock ∧ some k_ ≠ (.slice Ao42 x10_2.length co42 : Value).ownBlock) (fun _ => False) rfl rfl ?aO ?aR (fun _ _ h => h) (fun _ h => h.elim) ?aF ?aB ?aS ?aL ?_
                                  (case aR => repeat (first | exact (by repeat (first | (with_reducible exact HR331.out) | (with_reducible refine Kd.C_alloc ?_ _) | (with_reducible refine Kd.C_drewN ?_ _) | (with_reducible refine Kd.C_drew ?_) | exact HR331.out)) | (with_reducible refine Kd.C_alloc ?_ _) | (with_reducible refine Kd.C_drewN ?_ _) | (with_reducible refine Kd.C_drew ?_)))
                                  (case aB => exact (by repeat (first | (with_reducible first | exact HB.out | apply below_alloc | apply pw_below_drewN | apply below_drew1) | exact HB.out)))
                                  (case aF => exact (fun k_ hk => ⟨Kd.fresh' (Kd.R_lt (by (with_reducible repeat (first | apply Kd.R_alloc | apply Kd.R_drewN | apply Kd.R_drew)); exact HO_3.out)) k_ hk, Kd.fresh' (Kd.R_lt (by (with_reducible repeat (first | apply Kd.R_alloc | apply Kd.R_drewN | apply Kd.R_drew)); exact HO_4.out)) k_ hk, Kd.fresh' (Kd.R_lt (by (with_reducible repeat (first | apply Kd.R_alloc | apply Kd.R_drewN | apply Kd.R_drew)); exact HO_5.out)) k_ hk, Kd.fresh' (Kd.R_lt (by (with_reducible repeat (first | apply Kd.R_alloc | apply Kd.R_drewN | apply Kd.R_drew)); exact HO_10.out)) k_ hk⟩))
                                  (case aO => exact (by (with_reducible repeat (first | apply Kd.R_alloc | apply Kd.R_drewN | apply Kd.R_drew)); exact HO327.out))
                                  (case aS => exact (below_size (by repeat (first | (with_reducible first | exact HB.out | apply below_alloc | apply pw_below_drewN | apply below_drew1) | exact HB.out))))
                                  (case aL => have := LMc27.out; omega)
                                  intro v333 w48 ho hb hg hat
                                  rw [← Ny332.out] at ho
                                  have n0_ := Aside0.mk (Kd.R_after (ok := (fun k_ => some k_ ≠ (.slice Ao9 t297.length co9 : Value).ownBlock ∧ some k_ ≠ (.slice Ao10 t298.length co10 : Value).ownBlock ∧ some k_ ≠ (.slice Ao42 x10_2.length co42 : Value).ownBlock)) (by (with_reducible repeat (first | apply Kd.R_alloc | apply Kd.R_drewN | apply Kd.R_drew)); first | exact HO_3.out | exact Kd.R_mono HO_3.out (fun _ hk => by (obtain ⟨hk1_, hk2_⟩ := hk; (try obtain ⟨ha_, hk1_⟩ := hk1_); (try obtain ⟨hb_, hk1_⟩ := hk1_); (try obtain ⟨hc_, hk1_⟩ := hk1_); (repeat' apply And.intro) <;> assumption))) hg hat)
                                  have n1_ := Aside0.mk (Kd.R_after (ok := (fun k_ => some k_ ≠ (.slice Ao8 t296.length co8 : Value).ownBlock ∧ some k_ ≠ (.slice Ao10 t298.length co10 : Value).ownBlock ∧ some k_ ≠ (.slice Ao42 x10_2.length co42 : Value).ownBlock)) (by (with_reducible repeat (first | apply Kd.R_alloc | apply Kd.R_drewN | apply Kd.R_drew)); first | exact HO_4.out | exact Kd.R_mono HO_4.out (fun _ hk => by (obtain ⟨hk1_, hk2_⟩ := hk; (try obtain ⟨ha_, hk1_⟩ := hk1_); (try obtain ⟨hb_, hk1_⟩ := hk1_); (try obtain ⟨hc_, hk1_⟩ := hk1_); (repeat' apply And.intro) <;> assumption))) hg hat)
                                  have n2_ := Aside0.mk (Kd.R_after (ok := (fun k_ => some k_ ≠ (.slice Ao8 t296.length co8 : Value).ownBlock ∧ some k_ ≠ (.slice Ao9 t297.length co9 : Value).ownBlock ∧ some k_ ≠ (.slice Ao42 x10_2.length co42 : Value).ownBlock)) (by (with_reducible repeat (first | apply Kd.R_alloc | apply Kd.R_drewN | apply Kd.R_drew)); first | exact HO_5.out | exact Kd.R_mono HO_5.out (fun _ hk => by (obtain ⟨hk1_, hk2_⟩ := hk; (try obtain ⟨ha_, hk1_⟩ := hk1_); (try obtain ⟨hb_, hk1_⟩ := hk1_); (try obtain ⟨hc_, hk1_⟩ := hk1_); (repeat' apply And.intro) <;> assumption))) hg hat)
                                  have n3_ := Aside0.mk (Kd.R_after (ok := (fun k_ => some k_ ≠ (.slice Ao8 t296.length co8 : Value).ownBlock ∧ some k_ ≠ (.slice Ao9 t297.length co9 : Value).ownBlock ∧ some k_ ≠ (.slice Ao10 t298.length co10 : Value).ownBlock)) (by (with_reducible repeat (first | apply Kd.R_alloc | apply Kd.R_drewN | apply Kd.R_drew)); first | exact HO_10.out | exact Kd.R_mono HO_10.out (fun _ hk => by (obtain ⟨hk1_, hk2_⟩ := hk; (try obtain ⟨ha_, hk1_⟩ := hk1_); (try obtain ⟨hb_, hk1_⟩ := hk1_); (try obtain ⟨hc_, hk1_⟩ := hk1_); (repeat' apply And.intro) <;> assumption))) hg hat)
                                  have n4_ := Aside0.mk (hb)
                                  have n5_ := Aside0.mk ((show Kd.C (Kd.int .i64) w48 A44 y328.length y328 from by rw [Ny328.out, KA44.out]; exact Kd.C_drop (m := 1) (c := co42) ((Kd.R_reads' (Kd.R_after (ok := (fun k_ => some k_ ≠ (.slice Ao8 t296.length co8 : Value).ownBlock ∧ some k_ ≠ (.slice Ao9 t297.length co9 : Value).ownBlock ∧ some k_ ≠ (.slice Ao10 t298.length co10 : Value).ownBlock)) (by (with_reducible repeat (first | apply Kd.R_alloc | apply Kd.R_drewN | apply Kd.R_drew)); first | exact HO_10.out | exact Kd.R_mono HO_10.out (fun _ hk => by (obtain ⟨hk1_, hk2_⟩ := hk; (try obtain ⟨ha_, hk1_⟩ := hk1_); (try obtain ⟨hb_, hk1_⟩ := hk1_); (try obtain ⟨hc_, hk1_⟩ := hk1_); (repeat' apply And.intro) <;> assumption))) hg hat)).2.2) KL44.out ((Kd.R_reads' (Kd.R_after (ok := (fun k_ => some k_ ≠ (.slice Ao8 t296.length co8 : Value).ownBlock ∧ some k_ ≠ (.slice Ao9 t297.length co9 : Value).ownBlock ∧ some k_ ≠ (.slice Ao10 t298.length co10 : Value).ownBlock)) (by (with_reducible repeat (first | apply Kd.R_alloc | apply Kd.R_drewN | apply Kd.R_drew)); first | exact HO_10.out | exact Kd.R_mono HO_10.out (fun _ hk => by (obtain ⟨hk1_, hk2_⟩ := hk; (try obtain ⟨ha_, hk1_⟩ := hk1_); (try obtain ⟨hb_, hk1_⟩ := hk1_); (try obtain ⟨hc_, hk1_⟩ := hk1_); (repeat' apply And.intro) <;> assumption))) hg hat)).2.1)))
                                  have n6_ := Aside0.mk (ho)
                                  clear HO_3
                                  clear HO_4
                                  clear HO_5
                                  clear HO_10
                                  clear HB
                                  clear HR331
                                  clear HO327
                                  have HO_3 := n0_
                                  have HO_4 := n1_
                                  have HO_5 := n2_
                                  have HO_10 := n3_
                                  have HB := n4_
                                  have HR331 := n5_
                                  have HO334 := n6_
                                  clear n0_ n1_ n2_ n3_ n4_ n5_ n6_
                                  clear ho hb hg hat
                                  refine hK.out _ _ trivial (fun hHeld => ?_)
                                  clear hK K
                                  refine norm_ (a' := ?_) ?_ ?_
                                  rotate_left
                                  · show Act.put _ (some 81) _ = _
                                    simp only [Act.put, List.setIfInBounds_toArray, List.set_cons_zero, List.set_cons_succ, i64_w, i32_w]
                                    rfl
                                  refine pure_ (i := 6) (N := some 14) (v := ?_) (a' := ?_) #[true, true, true, true, true, true, true] rfl rfl (by kernel_rfl) (fun _ _ _ h => h) (Or.inl ⟨by rfl, ?_⟩) ?_ ?_
                                  rotate_left
                                  · intro w'
                                    go_simp
                                    with_reducible rfl
                                  rotate_left
                                  · simp only [Act.put, List.setIfInBounds_toArray, List.set_cons_zero, List.set_cons_succ, i64_w, i32_w]
                                    rfl
                                  refine done_ (by kernel_rfl) ?_
                                  obtain ⟨Ao49, co49, eo49⟩ := Kd.R_slice HO334.out
                                  subst eo49
                                  try go_wp2_with (first | ((with_reducible refine gate_callee (f := 14) rfl ?_); refine goesL_ (some 86) rfl rfl Try.func14 (by kernel_rfl) rfl #[.slice Ao8 t296.length co8, .slice Ao9 t297.length co9, .slice Ao49 y332.length co49] rfl (by (try simp only [List.map_toArray, List.map_cons, List.map_nil]); first | done | rfl | (simp only [List.length_drop, List.length_take]; rfl)) ?_; (with_reducible refine (impl_ClimbOf.calls k2 _ _ t296 _ _ t297 _ _ y332 t335 true _ ?side1 ?side2 ?side3 ?side4 ?side5 ?side6 A28.out).mono ?_); (case side1 => repeat (first | exact (Kd.R_reads' HO_3.out).2.2 | (with_reducible refine Kd.C_alloc ?_ _) | (with_reducible refine Kd.C_drewN ?_ _) | (with_reducible refine Kd.C_drew ?_))); (case side2 => exact (Kd.R_reads' HO_3.out).2.1); (case side3 => repeat (first | exact (Kd.R_reads' HO_4.out).2.2 | (with_reducible refine Kd.C_alloc ?_ _) | (with_reducible refine Kd.C_drewN ?_ _) | (with_reducible refine Kd.C_drew ?_))); (case side4 => exact (Kd.R_reads' HO_4.out).2.1); (case side5 => repeat (first | exact (Kd.R_reads' HO334.out).2.2 | (with_reducible refine Kd.C_alloc ?_ _) | (with_reducible refine Kd.C_drewN ?_ _) | (with_reducible refine Kd.C_drew ?_))); (case side6 => exact (Kd.R_reads' HO334.out).2.1); rintro e w' ⟨rfl, ⟨nd, rfl⟩⟩; refine ⟨_, rfl, ?_⟩))
                                  go_ret
                                  exact ⟨by first | rfl | (simp [errW_none, errW_some] <;> rfl) | (simp [*, errW_none, errW_some] <;> rfl), by repeat (first | (with_reducible first | exact HB.out | apply below_alloc | apply pw_below_drewN | apply below_drew1) | exact HB.out)⟩
                              · rw [if_neg c32] at H
                                have c32b0 : (t335 == 0) = false := beq_eq_false_iff_ne.mpr c32
                                have c32b1 : (t335 != 0) = true := bne_iff_ne.mpr c32
                                obtain rfl := Option.some.inj H
                                obtain ⟨Ao50, co50, eo50⟩ := Kd.R_slice HO_10.out
                                subst eo50
                                try go_wp2_with (first | ((with_reducible refine gate_callee (f := 14) rfl ?_); refine goesL_ (some 73) rfl rfl Try.func14 (by kernel_rfl) rfl #[.slice Ao8 t296.length co8, .slice Ao9 t297.length co9, .slice Ao50 x10_2.length co50] rfl (by (try simp only [List.map_toArray, List.map_cons, List.map_nil]); first | done | rfl | (simp only [List.length_drop, List.length_take]; rfl)) ?_; (with_reducible refine (impl_ClimbOf.calls k2 _ _ t296 _ _ t297 _ _ x10_2 t320 true _ ?side1 ?side2 ?side3 ?side4 ?side5 ?side6 A24.out).mono ?_); (case side1 => repeat (first | exact (Kd.R_reads' HO_3.out).2.2 | (with_reducible refine Kd.C_alloc ?_ _) | (with_reducible refine Kd.C_drewN ?_ _) | (with_reducible refine Kd.C_drew ?_))); (case side2 => exact (Kd.R_reads' HO_3.out).2.1); (case side3 => repeat (first | exact (Kd.R_reads' HO_4.out).2.2 | (with_reducible refine Kd.C_alloc ?_ _) | (with_reducible refine Kd.C_drewN ?_ _) | (with_reducible refine Kd.C_drew ?_))); (case side4 => exact (Kd.R_reads' HO_4.out).2.1); (case side5 => repeat (first | exact (Kd.R_reads' HO_10.out).2.2 | (with_reducible refine Kd.C_alloc ?_ _) | (with_reducible refine Kd.C_drewN ?_ _) | (with_reducible refine Kd.C_drew ?_))); (case side6 => exact (Kd.R_reads' HO_10.out).2.1); rintro e w' ⟨rfl, ⟨nd, rfl⟩⟩; refine ⟨_, rfl, ?_⟩))
                                (try (rw [drewN_self wr]; generalize hq_ : World.drewN wr _ = wr; have hcq_ := fun a_ : Addr => cell_at_q hq_ a_; have hfq_ := fun a_ : Addr => frozen_at_q hq_ a_; have n0_ : Aside0 (Kd.R (Kd.int .i64) 3 wr w.heap.size (fun k_ => some k_ ≠ (.slice Ao8 t296.length co8 : Value).ownBlock ∧ some k_ ≠ (.slice Ao9 t297.length co9 : Value).ownBlock ∧ some k_ ≠ (.slice Ao10 t298.length co10 : Value).ownBlock) (.slice Ao50 x10_2.length co50) x10_2) := ⟨by rw [← hq_]; exact (by (with_reducible repeat (first | apply Kd.R_alloc | apply Kd.R_drewN | apply Kd.R_drew)); exact HO_10.out)⟩; have n1_ : Aside0 (Kd.R (Kd.int .i64) 3 wr w.heap.size (fun k_ => some k_ ≠ (.slice Ao50 x10_2.length co50 : Value).ownBlock ∧ some k_ ≠ (.slice Ao9 t297.length co9 : Value).ownBlock ∧ some k_ ≠ (.slice Ao10 t298.length co10 : Value).ownBlock) (.slice Ao8 t296.length co8) t296) := ⟨by rw [← hq_]; exact (by (with_reducible repeat (first | apply Kd.R_alloc | apply Kd.R_drewN | apply Kd.R_drew)); exact Kd.R_mono HO_3.out (fun _ hk => ⟨hk.2.2, ⟨hk.1, hk.2.1⟩⟩))⟩; have n2_ : Aside0 (Kd.R (Kd.int .i64) 3 wr w.heap.size (fun k_ => some k_ ≠ (.slice Ao50 x10_2.length co50 : Value).ownBlock ∧ some k_ ≠ (.slice Ao8 t296.length co8 : Value).ownBlock ∧ some k_ ≠ (.slice Ao10 t298.length co10 : Value).ownBlock) (.slice Ao9 t297.length co9) t297) := ⟨by rw [← hq_]; exact (by (with_reducible repeat (first | apply Kd.R_alloc | apply Kd.R_drewN | apply Kd.R_drew)); exact Kd.R_mono HO_4.out (fun _ hk => ⟨hk.2.2, ⟨hk.1, hk.2.1⟩⟩))⟩; have n3_ : Aside0 (Kd.R (Kd.int .i64) 3 wr w.heap.size (fun k_ => some k_ ≠ (.slice Ao50 x10_2.length co50 : Value).ownBlock ∧ some k_ ≠ (.slice Ao8 t296.length co8 : Value).ownBlock ∧ some k_ ≠ (.slice Ao9 t297.length co9 : Value).ownBlock) (.slice Ao10 t298.length co10) t298) := ⟨by rw [← hq_]; exact (by (with_reducible repeat (first | apply Kd.R_alloc | apply Kd.R_drewN | apply Kd.R_drew)); exact Kd.R_mono HO_5.out (fun _ hk => ⟨hk.2.2, ⟨hk.1, hk.2.1⟩⟩))⟩; have n4_ : Aside0 (Below w.heap.size w wr) := ⟨by rw [← hq_]; exact (by repeat (first | (with_reducible first | exact HB.out | apply below_alloc | apply pw_below_drewN | apply below_drew1) | exact HB.out))⟩; clear HO_10 HO_3 HO_4 HO_5 HB hq_; have HO_10 := n0_; have HO_3 := n1_; have HO_4 := n2_; have HO_5 := n3_; have HB := n4_; clear n0_ n1_ n2_ n3_ n4_))
                                have n0_ := Aside0.mk (Kd.R_drew HO_3.out)
                                have n1_ := Aside0.mk (Kd.R_drew HO_4.out)
                                have n2_ := Aside0.mk (Kd.R_drew HO_5.out)
                                have n3_ := Aside0.mk (Kd.R_drew HO_10.out)
                                have n4_ := Aside0.mk (below_drew1 HB.out)
                                clear HO_3
                                clear HO_4
                                clear HO_5
                                clear HO_10
                                clear HB
                                have HO_3 := n0_
                                have HO_4 := n1_
                                have HO_5 := n2_
                                have HO_10 := n3_
                                have HB := n4_
                                clear n0_ n1_ n2_ n3_ n4_
                                have q52 : (1 : Int) ≤ ((x10_2.length : Int) : Int) := of_decide_eq_true (by first | (with_reducible assumption) | assumption)
                                obtain ⟨i052, hi052, _, hsz52, _⟩ := info_parts info3
                                have hroom52 : x10_2.length ≤ co50 := (Kd.R_reads' HO_10.out).2.1
                                have hC52 : Kd.C (Kd.int .i64) _ Ao50 x10_2.length x10_2 := (Kd.R_reads' HO_10.out).2.2
                                have hcut52 := cut_from (P := Try.prog) 23 3 .i64 Try.underlying23 hi052 1 hsz52 Ao50 x10_2.length co50 1 (by omega) q52
                                have hr52 := Kd.C_drop (m := (1 : Int).toNat) (c := co50) hC52 (by omega) hroom52
                                obtain ⟨A52, hA52⟩ : ∃ A1, A1 = (if co50 = (1 : Int).toNat then Ao50 else (Ao50 : Option Addr).map (·.add ((1 : Int).toNat * 1))) := ⟨_, rfl⟩
                                obtain ⟨c52, hc52⟩ : ∃ c1, c1 = co50 - (1 : Int).toNat := ⟨_, rfl⟩
                                have hy52 : y328.length = x10_2.length - (1 : Int).toNat := (by rw [Ny328.out, List.length_drop] <;> omega)
                                rw [show (x10_2).drop (1 : Int).toNat = y328 from Ny328.out.symm] at hr52
                                replace hr52 : Kd.C (Kd.int .i64) _ A52 y328.length y328 := (by rw [hA52]; exact hr52)
                                rw [← hy52, ← hA52, ← hc52] at hcut52
                                have HR331 := Aside0.mk hr52
                                have HC331 := Aside0.mk (show y328.length ≤ c52 from by rw [hy52, hc52]; exact Nat.sub_le_sub_right hroom52 _)
                                clear hr52 hC52 hroom52 hi052 hsz52 hc52
                                have KY52 := Aside0.mk hy52
                                have KA52 := Aside0.mk hA52
                                clear hy52 hA52
                                have KL52 := Aside0.mk (show 1 ≤ x10_2.length from by omega)
                                replace q52 := eq_true q52
                                refine start_ (n := 7) (S := fun w' => True) (ds := []) #[false, false, false, false, false, false, false] (by kernel_rfl) rfl rfl trivial (fun hHeld => ?_)
                                generalize wr.drew = w51 at HO_3 HO_4 HO_5 HO_10 HB HR331 hHeld ⊢
                                refine pure_ (i := 1) (N := some 77) (v := ?_) (a' := ?_) #[false, true, false, false, false, false, false] rfl rfl (by kernel_rfl) (fun _ _ _ h => h) (Or.inl ⟨by rfl, ?_⟩) ?_ ?_
                                rotate_left
                                · intro w'
                                  go_simp
                                  with_reducible rfl
                                rotate_left
                                · simp only [Act.put, List.setIfInBounds_toArray, List.set_cons_zero, List.set_cons_succ, i64_w, i32_w]
                                  rfl
                                refine pure_ (i := 3) (N := some 79) (v := ?_) (a' := ?_) #[false, true, false, true, false, false, false] rfl rfl (by kernel_rfl) (fun _ _ _ h => h) (Or.inl ⟨by rfl, ?_⟩) ?_ ?_
                                rotate_left
                                · intro w'
                                  go_simp
                                  with_reducible rfl
                                rotate_left
                                · simp only [Act.put, List.setIfInBounds_toArray, List.set_cons_zero, List.set_cons_succ, i64_w, i32_w]
                                  rfl
                                refine pure_ (i := 4) (N := some 80) (v := ?_) (a' := ?_) #[false, true, false, true, true, false, false] rfl rfl (by kernel_rfl) (fun _ _ _ h => h) (Or.inl ⟨by rfl, ?_⟩) ?_ ?_
                                rotate_left
                                · intro w'
                                  go_simp
                                  with_reducible rfl
                                rotate_left
                                · simp only [Act.put, List.setIfInBounds_toArray, List.set_cons_zero, List.set_cons_succ, i64_w, i32_w]
                                  rfl
                                refine one_ (i := 0) (N := some 76) #[true, true, false, true, true, false, false] rfl rfl (by kernel_rfl) (by decide) (fun K hK => ?_)
                                refine Kd.R_lit_step (Kd.int .i64) _ 3 ?hg (N := 76) ?hd (xs := ([] : List Int)) (inner := []) (ok := fun _ => True) (okp := fun _ => True) ?hr ?hp (fun _ hk => hk) trivial (Below.refl _ _) (Nat.le_refl _) (by simp) ?_; (case hd => rfl); (case hg => rfl); (case hr => first | (go_simp; done) | (go_simp; rfl)); (case hp => exact (Reps.none _ _))
                                intro v323 w53 ho54 hb hg_ hnew_
                                clear hg_ hnew_
                                (first | rw [← Ny322.out] at ho54 | (simp only [Int.reduceToNat] at ho54; rw [← Ny322.out] at ho54))
                                have n0_ := Aside0.mk (Kd.R_elder' (by (with_reducible repeat (first | apply Kd.R_alloc | apply Kd.R_drewN | apply Kd.R_drew)); exact HO_3.out) (Kd.R_base ho54) hb)
                                have n1_ := Aside0.mk (Kd.R_elder' (by (with_reducible repeat (first | apply Kd.R_alloc | apply Kd.R_drewN | apply Kd.R_drew)); exact HO_4.out) (Kd.R_base ho54) hb)
                                have n2_ := Aside0.mk (Kd.R_elder' (by (with_reducible repeat (first | apply Kd.R_alloc | apply Kd.R_drewN | apply Kd.R_drew)); exact HO_5.out) (Kd.R_base ho54) hb)
                                have n3_ := Aside0.mk (Kd.R_elder' (by (with_reducible repeat (first | apply Kd.R_alloc | apply Kd.R_drewN | apply Kd.R_drew)); exact HO_10.out) (Kd.R_base ho54) hb)
                                have n4_ := Aside0.mk (Kd.R_lower (Kd.R_new' (Kd.R_new' (Kd.R_new' (Kd.R_new' ho54 (Kd.R_lt (by (with_reducible repeat (first | apply Kd.R_alloc | apply Kd.R_drewN | apply Kd.R_drew)); exact HO_3.out))) (Kd.R_lt (by (with_reducible repeat (first | apply Kd.R_alloc | apply Kd.R_drewN | apply Kd.R_drew)); exact HO_4.out))) (Kd.R_lt (by (with_reducible repeat (first | apply Kd.R_alloc | apply Kd.R_drewN | apply Kd.R_drew)); exact HO_5.out))) (Kd.R_lt (by (with_reducible repeat (first | apply Kd.R_alloc | apply Kd.R_drewN | apply Kd.R_drew)); exact HO_10.out))) (below_size (by repeat (first | (with_reducible first | exact HB.out | apply below_alloc | apply pw_below_drewN | apply below_drew1) | exact HB.out))))
                                have n5_ := Aside0.mk (Kd.C_below (by repeat (first | (with_reducible exact HR331.out) | (with_reducible refine Kd.C_alloc ?_ _) | (with_reducible refine Kd.C_drewN ?_ _) | (with_reducible refine Kd.C_drew ?_) | exact HR331.out)) hb)
                                have n6_ := Aside0.mk (below_step (by repeat (first | (with_reducible first | exact HB.out | apply below_alloc | apply pw_below_drewN | apply below_drew1) | exact HB.out)) hb)
                                clear HO_3
                                clear HO_4
                                clear HO_5
                                clear HO_10
                                clear HR331
                                clear HB
                                have HO_3 := n0_
                                have HO_4 := n1_
                                have HO_5 := n2_
                                have HO_10 := n3_
                                have HO324 := n4_
                                have HR331 := n5_
                                have HB := n6_
                                clear n0_ n1_ n2_ n3_ n4_ n5_ n6_
                                clear hb ho54
                                refine hK.out _ _ trivial (fun hHeld => ?_)
                                clear hK K
                                refine norm_ (a' := ?_) ?_ ?_
                                rotate_left
                                · show Act.put _ (some 76) _ = _
                                  simp only [Act.put, List.setIfInBounds_toArray, List.set_cons_zero, List.set_cons_succ, i64_w, i32_w]
                                  rfl
                                refine one_ (i := 2) (N := some 78) #[true, true, true, true, true, false, false] rfl rfl (by kernel_rfl) (by decide) (fun K hK => ?_)
                                refine Kd.R_append_rows_step (Kd.int .i64) (w0 := w) w.heap.size (by rfl) (.tmp 76) (.tmp 77) 23 3 (.int .i64 0) 8 rfl Try.underlying23 info3 rfl (by decide) (by omega) v323 y322 t298 _ _ _ (fun k_ => some k_ ≠ (.slice Ao8 t296.length co8 : Value).ownBlock ∧ some k_ ≠ (.slice Ao9 t297.length co9 : Value).ownBlock ∧ some k_ ≠ (.slice Ao10 t298.length co10 : Value).ownBlock ∧ some k_ ≠ (.slice Ao50 x10_2.length co50 : Value).ownBlock) (fun _ => False) rfl rfl ?aO ?aR (fun _ _ h => h) (fun _ h => h.elim) ?aF ?aB ?aS ?aL ?_
                                (case aR => repeat (first | exact (Kd.R_reads' HO_5.out).2.2 | (with_reducible refine Kd.C_alloc ?_ _) | (with_reducible refine Kd.C_drewN ?_ _) | (with_reducible refine Kd.C_drew ?_)))
                                (case aB => exact (by repeat (first | (with_reducible first | exact HB.out | apply below_alloc | apply pw_below_drewN | apply below_drew1) | exact HB.out)))
                                (case aF => exact (fun k_ hk => ⟨Kd.fresh' (Kd.R_lt (by (with_reducible repeat (first | apply Kd.R_alloc | apply Kd.R_drewN | apply Kd.R_drew)); exact HO_3.out)) k_ hk, Kd.fresh' (Kd.R_lt (by (with_reducible repeat (first | apply Kd.R_alloc | apply Kd.R_drewN | apply Kd.R_drew)); exact HO_4.out)) k_ hk, Kd.fresh' (Kd.R_lt (by (with_reducible repeat (first | apply Kd.R_alloc | apply Kd.R_drewN | apply Kd.R_drew)); exact HO_5.out)) k_ hk, Kd.fresh' (Kd.R_lt (by (with_reducible repeat (first | apply Kd.R_alloc | apply Kd.R_drewN | apply Kd.R_drew)); exact HO_10.out)) k_ hk⟩))
                                (case aO => exact (by (with_reducible repeat (first | apply Kd.R_alloc | apply Kd.R_drewN | apply Kd.R_drew)); exact Kd.R_mono HO324.out (fun _ hk => ⟨hk.1.1.1.2, ⟨hk.1.1.2, ⟨hk.1.2, hk.2⟩⟩⟩)))
                                (case aS => exact (below_size (by repeat (first | (with_reducible first | exact HB.out | apply below_alloc | apply pw_below_drewN | apply below_drew1) | exact HB.out))))
                                (case aL => have := LMc25.out; omega)
                                intro v326 w55 ho hb hg hat
                                rw [← Ny325.out] at ho
                                have n0_ := Aside0.mk (Kd.R_after (ok := (fun k_ => some k_ ≠ (.slice Ao9 t297.length co9 : Value).ownBlock ∧ some k_ ≠ (.slice Ao10 t298.length co10 : Value).ownBlock ∧ some k_ ≠ (.slice Ao50 x10_2.length co50 : Value).ownBlock)) (by (with_reducible repeat (first | apply Kd.R_alloc | apply Kd.R_drewN | apply Kd.R_drew)); first | exact HO_3.out | exact Kd.R_mono HO_3.out (fun _ hk => by (obtain ⟨hk1_, hk2_⟩ := hk; (try obtain ⟨ha_, hk1_⟩ := hk1_); (try obtain ⟨hb_, hk1_⟩ := hk1_); (try obtain ⟨hc_, hk1_⟩ := hk1_); (repeat' apply And.intro) <;> assumption))) hg hat)
                                have n1_ := Aside0.mk (Kd.R_after (ok := (fun k_ => some k_ ≠ (.slice Ao8 t296.length co8 : Value).ownBlock ∧ some k_ ≠ (.slice Ao10 t298.length co10 : Value).ownBlock ∧ some k_ ≠ (.slice Ao50 x10_2.length co50 : Value).ownBlock)) (by (with_reducible repeat (first | apply Kd.R_alloc | apply Kd.R_drewN | apply Kd.R_drew)); first | exact HO_4.out | exact Kd.R_mono HO_4.out (fun _ hk => by (obtain ⟨hk1_, hk2_⟩ := hk; (try obtain ⟨ha_, hk1_⟩ := hk1_); (try obtain ⟨hb_, hk1_⟩ := hk1_); (try obtain ⟨hc_, hk1_⟩ := hk1_); (repeat' apply And.intro) <;> assumption))) hg hat)
                                have n2_ := Aside0.mk (Kd.R_after (ok := (fun k_ => some k_ ≠ (.slice Ao8 t296.length co8 : Value).ownBlock ∧ some k_ ≠ (.slice Ao9 t297.length co9 : Value).ownBlock ∧ some k_ ≠ (.slice Ao50 x10_2.length co50 : Value).ownBlock)) (by (with_reducible repeat (first | apply Kd.R_alloc | apply Kd.R_drewN | apply Kd.R_drew)); first | exact HO_5.out | exact Kd.R_mono HO_5.out (fun _ hk => by (obtain ⟨hk1_, hk2_⟩ := hk; (try obtain ⟨ha_, hk1_⟩ := hk1_); (try obtain ⟨hb_, hk1_⟩ := hk1_); (try obtain ⟨hc_, hk1_⟩ := hk1_); (repeat' apply And.intro) <;> assumption))) hg hat)
                                have n3_ := Aside0.mk (Kd.R_after (ok := (fun k_ => some k_ ≠ (.slice Ao8 t296.length co8 : Value).ownBlock ∧ some k_ ≠ (.slice Ao9 t297.length co9 : Value).ownBlock ∧ some k_ ≠ (.slice Ao10 t298.length co10 : Value).ownBlock)) (by (with_reducible repeat (first | apply Kd.R_alloc | apply Kd.R_drewN | apply Kd.R_drew)); first | exact HO_10.out | exact Kd.R_mono HO_10.out (fun _ hk => by (obtain ⟨hk1_, hk2_⟩ := hk; (try obtain ⟨ha_, hk1_⟩ := hk1_); (try obtain ⟨hb_, hk1_⟩ := hk1_); (try obtain ⟨hc_, hk1_⟩ := hk1_); (repeat' apply And.intro) <;> assumption))) hg hat)
                                have n4_ := Aside0.mk (hb)
                                have n5_ := Aside0.mk ((show Kd.C (Kd.int .i64) w55 A52 y328.length y328 from by rw [Ny328.out, KA52.out]; exact Kd.C_drop (m := 1) (c := co50) ((Kd.R_reads' (Kd.R_after (ok := (fun k_ => some k_ ≠ (.slice Ao8 t296.length co8 : Value).ownBlock ∧ some k_ ≠ (.slice Ao9 t297.length co9 : Value).ownBlock ∧ some k_ ≠ (.slice Ao10 t298.length co10 : Value).ownBlock)) (by (with_reducible repeat (first | apply Kd.R_alloc | apply Kd.R_drewN | apply Kd.R_drew)); first | exact HO_10.out | exact Kd.R_mono HO_10.out (fun _ hk => by (obtain ⟨hk1_, hk2_⟩ := hk; (try obtain ⟨ha_, hk1_⟩ := hk1_); (try obtain ⟨hb_, hk1_⟩ := hk1_); (try obtain ⟨hc_, hk1_⟩ := hk1_); (repeat' apply And.intro) <;> assumption))) hg hat)).2.2) KL52.out ((Kd.R_reads' (Kd.R_after (ok := (fun k_ => some k_ ≠ (.slice Ao8 t296.length co8 : Value).ownBlock ∧ some k_ ≠ (.slice Ao9 t297.length co9 : Value).ownBlock ∧ some k_ ≠ (.slice Ao10 t298.length co10 : Value).ownBlock)) (by (with_reducible repeat (first | apply Kd.R_alloc | apply Kd.R_drewN | apply Kd.R_drew)); first | exact HO_10.out | exact Kd.R_mono HO_10.out (fun _ hk => by (obtain ⟨hk1_, hk2_⟩ := hk; (try obtain ⟨ha_, hk1_⟩ := hk1_); (try obtain ⟨hb_, hk1_⟩ := hk1_); (try obtain ⟨hc_, hk1_⟩ := hk1_); (repeat' apply And.intro) <;> assumption))) hg hat)).2.1)))
                                have n6_ := Aside0.mk (ho)
                                clear HO_3
                                clear HO_4
                                clear HO_5
                                clear HO_10
                                clear HB
                                clear HR331
                                clear HO324
                                have HO_3 := n0_
                                have HO_4 := n1_
                                have HO_5 := n2_
                                have HO_10 := n3_
                                have HB := n4_
                                have HR331 := n5_
                                have HO327 := n6_
                                clear n0_ n1_ n2_ n3_ n4_ n5_ n6_
                                clear ho hb hg hat
                                refine hK.out _ _ trivial (fun hHeld => ?_)
                                clear hK K
                                refine norm_ (a' := ?_) ?_ ?_
                                rotate_left
                                · show Act.put _ (some 78) _ = _
                                  simp only [Act.put, List.setIfInBounds_toArray, List.set_cons_zero, List.set_cons_succ, i64_w, i32_w]
                                  rfl
                                refine one_ (i := 5) (N := some 81) #[true, true, true, true, true, true, false] rfl rfl (by kernel_rfl) (by decide) (fun K hK => ?_)
                                refine Kd.R_append_rows_step (Kd.int .i64) (w0 := w) w.heap.size (by rfl) (.tmp 78) (.tmp 80) 23 3 (.int .i64 0) 8 rfl Try.underlying23 info3 rfl (by decide) (by omega) v326 y325 y328 _ _ _ (fun k_ => some k_ ≠ (.slice Ao8 t296.length co8 : Value).ownBlock ∧ some k_ ≠ (.slice Ao9 t297.length co9 : Value).ownBlock ∧ some k_ ≠ (.slice Ao10 t298.length co10 : Value).ownBlock ∧ some k_ ≠ (.slice Ao50 x10_2.length co50 : Value).ownBlock) (fun _ => False) rfl rfl ?aO ?aR (fun _ _ h => h) (fun _ h => h.elim) ?aF ?aB ?aS ?aL ?_
                                (case aR => repeat (first | exact (by repeat (first | (with_reducible exact HR331.out) | (with_reducible refine Kd.C_alloc ?_ _) | (with_reducible refine Kd.C_drewN ?_ _) | (with_reducible refine Kd.C_drew ?_) | exact HR331.out)) | (with_reducible refine Kd.C_alloc ?_ _) | (with_reducible refine Kd.C_drewN ?_ _) | (with_reducible refine Kd.C_drew ?_)))
                                (case aB => exact (by repeat (first | (with_reducible first | exact HB.out | apply below_alloc | apply pw_below_drewN | apply below_drew1) | exact HB.out)))
                                (case aF => exact (fun k_ hk => ⟨Kd.fresh' (Kd.R_lt (by (with_reducible repeat (first | apply Kd.R_alloc | apply Kd.R_drewN | apply Kd.R_drew)); exact HO_3.out)) k_ hk, Kd.fresh' (Kd.R_lt (by (with_reducible repeat (first | apply Kd.R_alloc | apply Kd.R_drewN | apply Kd.R_drew)); exact HO_4.out)) k_ hk, Kd.fresh' (Kd.R_lt (by (with_reducible repeat (first | apply Kd.R_alloc | apply Kd.R_drewN | apply Kd.R_drew)); exact HO_5.out)) k_ hk, Kd.fresh' (Kd.R_lt (by (with_reducible repeat (first | apply Kd.R_alloc | apply Kd.R_drewN | apply Kd.R_drew)); exact HO_10.out)) k_ hk⟩))
                                (case aO => exact (by (with_reducible repeat (first | apply Kd.R_alloc | apply Kd.R_drewN | apply Kd.R_drew)); exact HO327.out))
                                (case aS => exact (below_size (by repeat (first | (with_reducible first | exact HB.out | apply below_alloc | apply pw_below_drewN | apply below_drew1) | exact HB.out))))
                                (case aL => have := LMc27.out; omega)
                                intro v333 w56 ho hb hg hat
                                rw [← Ny332.out] at ho
                                have n0_ := Aside0.mk (Kd.R_after (ok := (fun k_ => some k_ ≠ (.slice Ao9 t297.length co9 : Value).ownBlock ∧ some k_ ≠ (.slice Ao10 t298.length co10 : Value).ownBlock ∧ some k_ ≠ (.slice Ao50 x10_2.length co50 : Value).ownBlock)) (by (with_reducible repeat (first | apply Kd.R_alloc | apply Kd.R_drewN | apply Kd.R_drew)); first | exact HO_3.out | exact Kd.R_mono HO_3.out (fun _ hk => by (obtain ⟨hk1_, hk2_⟩ := hk; (try obtain ⟨ha_, hk1_⟩ := hk1_); (try obtain ⟨hb_, hk1_⟩ := hk1_); (try obtain ⟨hc_, hk1_⟩ := hk1_); (repeat' apply And.intro) <;> assumption))) hg hat)
                                have n1_ := Aside0.mk (Kd.R_after (ok := (fun k_ => some k_ ≠ (.slice Ao8 t296.length co8 : Value).ownBlock ∧ some k_ ≠ (.slice Ao10 t298.length co10 : Value).ownBlock ∧ some k_ ≠ (.slice Ao50 x10_2.length co50 : Value).ownBlock)) (by (with_reducible repeat (first | apply Kd.R_alloc | apply Kd.R_drewN | apply Kd.R_drew)); first | exact HO_4.out | exact Kd.R_mono HO_4.out (fun _ hk => by (obtain ⟨hk1_, hk2_⟩ := hk; (try obtain ⟨ha_, hk1_⟩ := hk1_); (try obtain ⟨hb_, hk1_⟩ := hk1_); (try obtain ⟨hc_, hk1_⟩ := hk1_); (repeat' apply And.intro) <;> assumption))) hg hat)
                                have n2_ := Aside0.mk (Kd.R_after (ok := (fun k_ => some k_ ≠ (.slice Ao8 t296.length co8 : Value).ownBlock ∧ some k_ ≠ (.slice Ao9 t297.length co9 : Value).ownBlock ∧ some k_ ≠ (.slice Ao50 x10_2.length co50 : Value).ownBlock)) (by (with_reducible repeat (first | apply Kd.R_alloc | apply Kd.R_drewN | apply Kd.R_drew)); first | exact HO_5.out | exact Kd.R_mono HO_5.out (fun _ hk => by (obtain ⟨hk1_, hk2_⟩ := hk; (try obtain ⟨ha_, hk1_⟩ := hk1_); (try obtain ⟨hb_, hk1_⟩ := hk1_); (try obtain ⟨hc_, hk1_⟩ := hk1_); (repeat' apply And.intro) <;> assumption))) hg hat)
                                have n3_ := Aside0.mk (Kd.R_after (ok := (fun k_ => some k_ ≠ (.slice Ao8 t296.length co8 : Value).ownBlock ∧ some k_ ≠ (.slice Ao9 t297.length co9 : Value).ownBlock ∧ some k_ ≠ (.slice Ao10 t298.length co10 : Value).ownBlock)) (by (with_reducible repeat (first | apply Kd.R_alloc | apply Kd.R_drewN | apply Kd.R_drew)); first | exact HO_10.out | exact Kd.R_mono HO_10.out (fun _ hk => by (obtain ⟨hk1_, hk2_⟩ := hk; (try obtain ⟨ha_, hk1_⟩ := hk1_); (try obtain ⟨hb_, hk1_⟩ := hk1_); (try obtain ⟨hc_, hk1_⟩ := hk1_); (repeat' apply And.intro) <;> assumption))) hg hat)
                                have n4_ := Aside0.mk (hb)
                                have n5_ := Aside0.mk ((show Kd.C (Kd.int .i64) w56 A52 y328.length y328 from by rw [Ny328.out, KA52.out]; exact Kd.C_drop (m := 1) (c := co50) ((Kd.R_reads' (Kd.R_after (ok := (fun k_ => some k_ ≠ (.slice Ao8 t296.length co8 : Value).ownBlock ∧ some k_ ≠ (.slice Ao9 t297.length co9 : Value).ownBlock ∧ some k_ ≠ (.slice Ao10 t298.length co10 : Value).ownBlock)) (by (with_reducible repeat (first | apply Kd.R_alloc | apply Kd.R_drewN | apply Kd.R_drew)); first | exact HO_10.out | exact Kd.R_mono HO_10.out (fun _ hk => by (obtain ⟨hk1_, hk2_⟩ := hk; (try obtain ⟨ha_, hk1_⟩ := hk1_); (try obtain ⟨hb_, hk1_⟩ := hk1_); (try obtain ⟨hc_, hk1_⟩ := hk1_); (repeat' apply And.intro) <;> assumption))) hg hat)).2.2) KL52.out ((Kd.R_reads' (Kd.R_after (ok := (fun k_ => some k_ ≠ (.slice Ao8 t296.length co8 : Value).ownBlock ∧ some k_ ≠ (.slice Ao9 t297.length co9 : Value).ownBlock ∧ some k_ ≠ (.slice Ao10 t298.length co10 : Value).ownBlock)) (by (with_reducible repeat (first | apply Kd.R_alloc | apply Kd.R_drewN | apply Kd.R_drew)); first | exact HO_10.out | exact Kd.R_mono HO_10.out (fun _ hk => by (obtain ⟨hk1_, hk2_⟩ := hk; (try obtain ⟨ha_, hk1_⟩ := hk1_); (try obtain ⟨hb_, hk1_⟩ := hk1_); (try obtain ⟨hc_, hk1_⟩ := hk1_); (repeat' apply And.intro) <;> assumption))) hg hat)).2.1)))
                                have n6_ := Aside0.mk (ho)
                                clear HO_3
                                clear HO_4
                                clear HO_5
                                clear HO_10
                                clear HB
                                clear HR331
                                clear HO327
                                have HO_3 := n0_
                                have HO_4 := n1_
                                have HO_5 := n2_
                                have HO_10 := n3_
                                have HB := n4_
                                have HR331 := n5_
                                have HO334 := n6_
                                clear n0_ n1_ n2_ n3_ n4_ n5_ n6_
                                clear ho hb hg hat
                                refine hK.out _ _ trivial (fun hHeld => ?_)
                                clear hK K
                                refine norm_ (a' := ?_) ?_ ?_
                                rotate_left
                                · show Act.put _ (some 81) _ = _
                                  simp only [Act.put, List.setIfInBounds_toArray, List.set_cons_zero, List.set_cons_succ, i64_w, i32_w]
                                  rfl
                                refine pure_ (i := 6) (N := some 14) (v := ?_) (a' := ?_) #[true, true, true, true, true, true, true] rfl rfl (by kernel_rfl) (fun _ _ _ h => h) (Or.inl ⟨by rfl, ?_⟩) ?_ ?_
                                rotate_left
                                · intro w'
                                  go_simp
                                  with_reducible rfl
                                rotate_left
                                · simp only [Act.put, List.setIfInBounds_toArray, List.set_cons_zero, List.set_cons_succ, i64_w, i32_w]
                                  rfl
                                refine done_ (by kernel_rfl) ?_
                                obtain ⟨Ao57, co57, eo57⟩ := Kd.R_slice HO334.out
                                subst eo57
                                try go_wp2_with (first | ((with_reducible refine gate_callee (f := 14) rfl ?_); refine goesL_ (some 86) rfl rfl Try.func14 (by kernel_rfl) rfl #[.slice Ao8 t296.length co8, .slice Ao9 t297.length co9, .slice Ao57 y332.length co57] rfl (by (try simp only [List.map_toArray, List.map_cons, List.map_nil]); first | done | rfl | (simp only [List.length_drop, List.length_take]; rfl)) ?_; (with_reducible refine (impl_ClimbOf.calls k2 _ _ t296 _ _ t297 _ _ y332 t335 true _ ?side1 ?side2 ?side3 ?side4 ?side5 ?side6 A28.out).mono ?_); (case side1 => repeat (first | exact (Kd.R_reads' HO_3.out).2.2 | (with_reducible refine Kd.C_alloc ?_ _) | (with_reducible refine Kd.C_drewN ?_ _) | (with_reducible refine Kd.C_drew ?_))); (case side2 => exact (Kd.R_reads' HO_3.out).2.1); (case side3 => repeat (first | exact (Kd.R_reads' HO_4.out).2.2 | (with_reducible refine Kd.C_alloc ?_ _) | (with_reducible refine Kd.C_drewN ?_ _) | (with_reducible refine Kd.C_drew ?_))); (case side4 => exact (Kd.R_reads' HO_4.out).2.1); (case side5 => repeat (first | exact (Kd.R_reads' HO334.out).2.2 | (with_reducible refine Kd.C_alloc ?_ _) | (with_reducible refine Kd.C_drewN ?_ _) | (with_reducible refine Kd.C_drew ?_))); (case side6 => exact (Kd.R_reads' HO334.out).2.1); rintro e w' ⟨rfl, ⟨nd, rfl⟩⟩; refine ⟨_, rfl, ?_⟩))
                                go_ret
                                exact ⟨by first | rfl | (simp [errW_none, errW_some] <;> rfl) | (simp [*, errW_none, errW_some] <;> rfl), by repeat (first | (with_reducible first | exact HB.out | apply below_alloc | apply pw_below_drewN | apply below_drew1) | exact HB.out)⟩
                            · replace c31 := Bool.eq_false_iff.mpr c31
                              subst c31
                              have H1 : (if t305 < (t298.length : Int) then (some (decide (t305 > (wrap64 (-(t298.length : Int)))))) else (some false)) = some r := by rw [if_neg (show ¬ (false = true) by decide)] at H; exact H
                              clear H
                              have H := H1
                              clear H1
                              by_cases c58 : t305 < (t298.length : Int)
                              · rw [if_pos c58] at H
                                have c58b0 : decide (t305 < (t298.length : Int)) = true := decide_eq_true c58
                                clear c58
                                obtain rfl := Option.some.inj H
                                obtain ⟨Ao59, co59, eo59⟩ := Kd.R_slice HO_10.out
                                subst eo59
                                try go_wp2_with (first | ((with_reducible refine gate_callee (f := 14) rfl ?_); refine goesL_ (some 73) rfl rfl Try.func14 (by kernel_rfl) rfl #[.slice Ao8 t296.length co8, .slice Ao9 t297.length co9, .slice Ao59 x10_2.length co59] rfl (by (try simp only [List.map_toArray, List.map_cons, List.map_nil]); first | done | rfl | (simp only [List.length_drop, List.length_take]; rfl)) ?_; (with_reducible refine (impl_ClimbOf.calls k2 _ _ t296 _ _ t297 _ _ x10_2 t320 true _ ?side1 ?side2 ?side3 ?side4 ?side5 ?side6 A24.out).mono ?_); (case side1 => repeat (first | exact (Kd.R_reads' HO_3.out).2.2 | (with_reducible refine Kd.C_alloc ?_ _) | (with_reducible refine Kd.C_drewN ?_ _) | (with_reducible refine Kd.C_drew ?_))); (case side2 => exact (Kd.R_reads' HO_3.out).2.1); (case side3 => repeat (first | exact (Kd.R_reads' HO_4.out).2.2 | (with_reducible refine Kd.C_alloc ?_ _) | (with_reducible refine Kd.C_drewN ?_ _) | (with_reducible refine Kd.C_drew ?_))); (case side4 => exact (Kd.R_reads' HO_4.out).2.1); (case side5 => repeat (first | exact (Kd.R_reads' HO_10.out).2.2 | (with_reducible refine Kd.C_alloc ?_ _) | (with_reducible refine Kd.C_drewN ?_ _) | (with_reducible refine Kd.C_drew ?_))); (case side6 => exact (Kd.R_reads' HO_10.out).2.1); rintro e w' ⟨rfl, ⟨nd, rfl⟩⟩; refine ⟨_, rfl, ?_⟩))
                                (try (rw [drewN_self wr]; generalize hq_ : World.drewN wr _ = wr; have hcq_ := fun a_ : Addr => cell_at_q hq_ a_; have hfq_ := fun a_ : Addr => frozen_at_q hq_ a_; have n0_ : Aside0 (Kd.R (Kd.int .i64) 3 wr w.heap.size (fun k_ => some k_ ≠ (.slice Ao8 t296.length co8 : Value).ownBlock ∧ some k_ ≠ (.slice Ao9 t297.length co9 : Value).ownBlock ∧ some k_ ≠ (.slice Ao10 t298.length co10 : Value).ownBlock) (.slice Ao59 x10_2.length co59) x10_2) := ⟨by rw [← hq_]; exact (by (with_reducible repeat (first | apply Kd.R_alloc | apply Kd.R_drewN | apply Kd.R_drew)); exact HO_10.out)⟩; have n1_ : Aside0 (Kd.R (Kd.int .i64) 3 wr w.heap.size (fun k_ => some k_ ≠ (.slice Ao59 x10_2.length co59 : Value).ownBlock ∧ some k_ ≠ (.slice Ao9 t297.length co9 : Value).ownBlock ∧ some k_ ≠ (.slice Ao10 t298.length co10 : Value).ownBlock) (.slice Ao8 t296.length co8) t296) := ⟨by rw [← hq_]; exact (by (with_reducible repeat (first | apply Kd.R_alloc | apply Kd.R_drewN | apply Kd.R_drew)); exact Kd.R_mono HO_3.out (fun _ hk => ⟨hk.2.2, ⟨hk.1, hk.2.1⟩⟩))⟩; have n2_ : Aside0 (Kd.R (Kd.int .i64) 3 wr w.heap.size (fun k_ => some k_ ≠ (.slice Ao59 x10_2.length co59 : Value).ownBlock ∧ some k_ ≠ (.slice Ao8 t296.length co8 : Value).ownBlock ∧ some k_ ≠ (.slice Ao10 t298.length co10 : Value).ownBlock) (.slice Ao9 t297.length co9) t297) := ⟨by rw [← hq_]; exact (by (with_reducible repeat (first | apply Kd.R_alloc | apply Kd.R_drewN | apply Kd.R_drew)); exact Kd.R_mono HO_4.out (fun _ hk => ⟨hk.2.2, ⟨hk.1, hk.2.1⟩⟩))⟩; have n3_ : Aside0 (Kd.R (Kd.int .i64) 3 wr w.heap.size (fun k_ => some k_ ≠ (.slice Ao59 x10_2.length co59 : Value).ownBlock ∧ some k_ ≠ (.slice Ao8 t296.length co8 : Value).ownBlock ∧ some k_ ≠ (.slice Ao9 t297.length co9 : Value).ownBlock) (.slice Ao10 t298.length co10) t298) := ⟨by rw [← hq_]; exact (by (with_reducible repeat (first | apply Kd.R_alloc | apply Kd.R_drewN | apply Kd.R_drew)); exact Kd.R_mono HO_5.out (fun _ hk => ⟨hk.2.2, ⟨hk.1, hk.2.1⟩⟩))⟩; have n4_ : Aside0 (Below w.heap.size w wr) := ⟨by rw [← hq_]; exact (by repeat (first | (with_reducible first | exact HB.out | apply below_alloc | apply pw_below_drewN | apply below_drew1) | exact HB.out))⟩; clear HO_10 HO_3 HO_4 HO_5 HB hq_; have HO_10 := n0_; have HO_3 := n1_; have HO_4 := n2_; have HO_5 := n3_; have HB := n4_; clear n0_ n1_ n2_ n3_ n4_))
                                have n0_ := Aside0.mk (Kd.R_drew HO_3.out)
                                have n1_ := Aside0.mk (Kd.R_drew HO_4.out)
                                have n2_ := Aside0.mk (Kd.R_drew HO_5.out)
                                have n3_ := Aside0.mk (Kd.R_drew HO_10.out)
                                have n4_ := Aside0.mk (below_drew1 HB.out)
                                clear HO_3
                                clear HO_4
                                clear HO_5
                                clear HO_10
                                clear HB
                                have HO_3 := n0_
                                have HO_4 := n1_
                                have HO_5 := n2_
                                have HO_10 := n3_
                                have HB := n4_
                                clear n0_ n1_ n2_ n3_ n4_
                                have q61 : (1 : Int) ≤ ((x10_2.length : Int) : Int) := of_decide_eq_true (by first | (with_reducible assumption) | assumption)
                                obtain ⟨i061, hi061, _, hsz61, _⟩ := info_parts info3
                                have hroom61 : x10_2.length ≤ co59 := (Kd.R_reads' HO_10.out).2.1
                                have hC61 : Kd.C (Kd.int .i64) _ Ao59 x10_2.length x10_2 := (Kd.R_reads' HO_10.out).2.2
                                have hcut61 := cut_from (P := Try.prog) 23 3 .i64 Try.underlying23 hi061 1 hsz61 Ao59 x10_2.length co59 1 (by omega) q61
                                have hr61 := Kd.C_drop (m := (1 : Int).toNat) (c := co59) hC61 (by omega) hroom61
                                obtain ⟨A61, hA61⟩ : ∃ A1, A1 = (if co59 = (1 : Int).toNat then Ao59 else (Ao59 : Option Addr).map (·.add ((1 : Int).toNat * 1))) := ⟨_, rfl⟩
                                obtain ⟨c61, hc61⟩ : ∃ c1, c1 = co59 - (1 : Int).toNat := ⟨_, rfl⟩
                                have hy61 : y328.length = x10_2.length - (1 : Int).toNat := (by rw [Ny328.out, List.length_drop] <;> omega)
                                rw [show (x10_2).drop (1 : Int).toNat = y328 from Ny328.out.symm] at hr61
                                replace hr61 : Kd.C (Kd.int .i64) _ A61 y328.length y328 := (by rw [hA61]; exact hr61)
                                rw [← hy61, ← hA61, ← hc61] at hcut61
                                have HR331 := Aside0.mk hr61
                                have HC331 := Aside0.mk (show y328.length ≤ c61 from by rw [hy61, hc61]; exact Nat.sub_le_sub_right hroom61 _)
                                clear hr61 hC61 hroom61 hi061 hsz61 hc61
                                have KY61 := Aside0.mk hy61
                                have KA61 := Aside0.mk hA61
                                clear hy61 hA61
                                have KL61 := Aside0.mk (show 1 ≤ x10_2.length from by omega)
                                replace q61 := eq_true q61
                                refine start_ (n := 7) (S := fun w' => True) (ds := []) #[false, false, false, false, false, false, false] (by kernel_rfl) rfl rfl trivial (fun hHeld => ?_)
                                generalize wr.drew = w60 at HO_3 HO_4 HO_5 HO_10 HB HR331 hHeld ⊢
                                refine pure_ (i := 1) (N := some 77) (v := ?_) (a' := ?_) #[false, true, false, false, false, false, false] rfl rfl (by kernel_rfl) (fun _ _ _ h => h) (Or.inl ⟨by rfl, ?_⟩) ?_ ?_
                                rotate_left
                                · intro w'
                                  go_simp
                                  with_reducible rfl
                                rotate_left
                                · simp only [Act.put, List.setIfInBounds_toArray, List.set_cons_zero, List.set_cons_succ, i64_w, i32_w]
                                  rfl
                                refine pure_ (i := 3) (N := some 79) (v := ?_) (a' := ?_) #[false, true, false, true, false, false, false] rfl rfl (by kernel_rfl) (fun _ _ _ h => h) (Or.inl ⟨by rfl, ?_⟩) ?_ ?_
                                rotate_left
                                · intro w'
                                  go_simp
                                  with_reducible rfl
                                rotate_left
                                · simp only [Act.put, List.setIfInBounds_toArray, List.set_cons_zero, List.set_cons_succ, i64_w, i32_w]
                                  rfl
                                refine pure_ (i := 4) (N := some 80) (v := ?_) (a' := ?_) #[false, true, false, true, true, false, false] rfl rfl (by kernel_rfl) (fun _ _ _ h => h) (Or.inl ⟨by rfl, ?_⟩) ?_ ?_
                                rotate_left
                                · intro w'
                                  go_simp
                                  with_reducible rfl
                                rotate_left
                                · simp only [Act.put, List.setIfInBounds_toArray, List.set_cons_zero, List.set_cons_succ, i64_w, i32_w]
                                  rfl
                                refine one_ (i := 0) (N := some 76) #[true, true, false, true, true, false, false] rfl rfl (by kernel_rfl) (by decide) (fun K hK => ?_)
                                refine Kd.R_lit_step (Kd.int .i64) _ 3 ?hg (N := 76) ?hd (xs := ([] : List Int)) (inner := []) (ok := fun _ => True) (okp := fun _ => True) ?hr ?hp (fun _ hk => hk) trivial (Below.refl _ _) (Nat.le_refl _) (by simp) ?_; (case hd => rfl); (case hg => rfl); (case hr => first | (go_simp; done) | (go_simp; rfl)); (case hp => exact (Reps.none _ _))
                                intro v323 w62 ho63 hb hg_ hnew_
                                clear hg_ hnew_
                                (first | rw [← Ny322.out] at ho63 | (simp only [Int.reduceToNat] at ho63; rw [← Ny322.out] at ho63))
                                have n0_ := Aside0.mk (Kd.R_elder' (by (with_reducible repeat (first | apply Kd.R_alloc | apply Kd.R_drewN | apply Kd.R_drew)); exact HO_3.out) (Kd.R_base ho63) hb)
                                have n1_ := Aside0.mk (Kd.R_elder' (by (with_reducible repeat (first | apply Kd.R_alloc | apply Kd.R_drewN | apply Kd.R_drew)); exact HO_4.out) (Kd.R_base ho63) hb)
                                have n2_ := Aside0.mk (Kd.R_elder' (by (with_reducible repeat (first | apply Kd.R_alloc | apply Kd.R_drewN | apply Kd.R_drew)); exact HO_5.out) (Kd.R_base ho63) hb)
                                have n3_ := Aside0.mk (Kd.R_elder' (by (with_reducible repeat (first | apply Kd.R_alloc | apply Kd.R_drewN | apply Kd.R_drew)); exact HO_10.out) (Kd.R_base ho63) hb)
                                have n4_ := Aside0.mk (Kd.R_lower (Kd.R_new' (Kd.R_new' (Kd.R_new' (Kd.R_new' ho63 (Kd.R_lt (by (with_reducible repeat (first | apply Kd.R_alloc | apply Kd.R_drewN | apply Kd.R_drew)); exact HO_3.out))) (Kd.R_lt (by (with_reducible repeat (first | apply Kd.R_alloc | apply Kd.R_drewN | apply Kd.R_drew)); exact HO_4.out))) (Kd.R_lt (by (with_reducible repeat (first | apply Kd.R_alloc | apply Kd.R_drewN | apply Kd.R_drew)); exact HO_5.out))) (Kd.R_lt (by (with_reducible repeat (first | apply Kd.R_alloc | apply Kd.R_drewN | apply Kd.R_drew)); exact HO_10.out))) (below_size (by repeat (first | (with_reducible first | exact HB.out | apply below_alloc | apply pw_below_drewN | apply below_drew1) | exact HB.out))))
                                have n5_ := Aside0.mk (Kd.C_below (by repeat (first | (with_reducible exact HR331.out) | (with_reducible refine Kd.C_alloc ?_ _) | (with_reducible refine Kd.C_drewN ?_ _) | (with_reducible refine Kd.C_drew ?_) | exact HR331.out)) hb)
                                have n6_ := Aside0.mk (below_step (by repeat (first | (with_reducible first | exact HB.out | apply below_alloc | apply pw_below_drewN | apply below_drew1) | exact HB.out)) hb)
                                clear HO_3
                                clear HO_4
                                clear HO_5
                                clear HO_10
                                clear HR331
                                clear HB
                                have HO_3 := n0_
                                have HO_4 := n1_
                                have HO_5 := n2_
                                have HO_10 := n3_
                                have HO324 := n4_
                                have HR331 := n5_
                                have HB := n6_
                                clear n0_ n1_ n2_ n3_ n4_ n5_ n6_
                                clear hb ho63
                                refine hK.out _ _ trivial (fun hHeld => ?_)
                                clear hK K
                                refine norm_ (a' := ?_) ?_ ?_
                                rotate_left
                                · show Act.put _ (some 76) _ = _
                                  simp only [Act.put, List.setIfInBounds_toArray, List.set_cons_zero, List.set_cons_succ, i64_w, i32_w]
                                  rfl
                                refine one_ (i := 2) (N := some 78) #[true, true, true, true, true, false, false] rfl rfl (by kernel_rfl) (by decide) (fun K hK => ?_)
                                refine Kd.R_append_rows_step (Kd.int .i64) (w0 := w) w.heap.size (by rfl) (.tmp 76) (.tmp 77) 23 3 (.int .i64 0) 8 rfl Try.underlying23 info3 rfl (by decide) (by omega) v323 y322 t298 _ _ _ (fun k_ => some k_ ≠ (.slice Ao8 t296.length co8 : Value).ownBlock ∧ some k_ ≠ (.slice Ao9 t297.length co9 : Value).ownBlock ∧ some k_ ≠ (.slice Ao10 t298.length co10 : Value).ownBlock ∧ some k_ ≠ (.slice Ao59 x10_2.length co59 : Value).ownBlock) (fun _ => False) rfl rfl ?aO ?aR (fun _ _ h => h) (fun _ h => h.elim) ?aF ?aB ?aS ?aL ?_
                                (case aR => repeat (first | exact (Kd.R_reads' HO_5.out).2.2 | (with_reducible refine Kd.C_alloc ?_ _) | (with_reducible refine Kd.C_drewN ?_ _) | (with_reducible refine Kd.C_drew ?_)))
                                (case aB => exact (by repeat (first | (with_reducible first | exact HB.out | apply below_alloc | apply pw_below_drewN | apply below_drew1) | exact HB.out)))
                                (case aF => exact (fun k_ hk => ⟨Kd.fresh' (Kd.R_lt (by (with_reducible repeat (first | apply Kd.R_alloc | apply Kd.R_drewN | apply Kd.R_drew)); exact HO_3.out)) k_ hk, Kd.fresh' (Kd.R_lt (by (with_reducible repeat (first | apply Kd.R_alloc | apply Kd.R_drewN | apply Kd.R_drew)); exact HO_4.out)) k_ hk, Kd.fresh' (Kd.R_lt (by (with_reducible repeat (first | apply Kd.R_alloc | apply Kd.R_drewN | apply Kd.R_drew)); exact HO_5.out)) k_ hk, Kd.fresh' (Kd.R_lt (by (with_reducible repeat (first | apply Kd.R_alloc | apply Kd.R_drewN | apply Kd.R_drew)); exact HO_10.out)) k_ hk⟩))
                                (case aO => exact (by (with_reducible repeat (first | apply Kd.R_alloc | apply Kd.R_drewN | apply Kd.R_drew)); exact Kd.R_mono HO324.out (fun _ hk => ⟨hk.1.1.1.2, ⟨hk.1.1.2, ⟨hk.1.2, hk.2⟩⟩⟩)))
                                (case aS => exact (below_size (by repeat (first | (with_reducible first | exact HB.out | apply below_alloc | apply pw_below_drewN | apply below_drew1) | exact HB.out))))
                                (case aL => have := LMc25.out; omega)
                                intro v326 w64 ho hb hg hat
                                rw [← Ny325.out] at ho
                                have n0_ := Aside0.mk (Kd.R_after (ok := (fun k_ => some k_ ≠ (.slice Ao9 t297.length co9 : Value).ownBlock ∧ some k_ ≠ (.slice Ao10 t298.length co10 : Value).ownBlock ∧ some k_ ≠ (.slice Ao59 x10_2.length co59 : Value).ownBlock)) (by (with_reducible repeat (first | apply Kd.R_alloc | apply Kd.R_drewN | apply Kd.R_drew)); first | exact HO_3.out | exact Kd.R_mono HO_3.out (fun _ hk => by (obtain ⟨hk1_, hk2_⟩ := hk; (try obtain ⟨ha_, hk1_⟩ := hk1_); (try obtain ⟨hb_, hk1_⟩ := hk1_); (try obtain ⟨hc_, hk1_⟩ := hk1_); (repeat' apply And.intro) <;> assumption))) hg hat)
                                have n1_ := Aside0.mk (Kd.R_after (ok := (fun k_ => some k_ ≠ (.slice Ao8 t296.length co8 : Value).ownBlock ∧ some k_ ≠ (.slice Ao10 t298.length co10 : Value).ownBlock ∧ some k_ ≠ (.slice Ao59 x10_2.length co59 : Value).ownBlock)) (by (with_reducible repeat (first | apply Kd.R_alloc | apply Kd.R_drewN | apply Kd.R_drew)); first | exact HO_4.out | exact Kd.R_mono HO_4.out (fun _ hk => by (obtain ⟨hk1_, hk2_⟩ := hk; (try obtain ⟨ha_, hk1_⟩ := hk1_); (try obtain ⟨hb_, hk1_⟩ := hk1_); (try obtain ⟨hc_, hk1_⟩ := hk1_); (repeat' apply And.intro) <;> assumption))) hg hat)
                                have n2_ := Aside0.mk (Kd.R_after (ok := (fun k_ => some k_ ≠ (.slice Ao8 t296.length co8 : Value).ownBlock ∧ some k_ ≠ (.slice Ao9 t297.length co9 : Value).ownBlock ∧ some k_ ≠ (.slice Ao59 x10_2.length co59 : Value).ownBlock)) (by (with_reducible repeat (first | apply Kd.R_alloc | apply Kd.R_drewN | apply Kd.R_drew)); first | exact HO_5.out | exact Kd.R_mono HO_5.out (fun _ hk => by (obtain ⟨hk1_, hk2_⟩ := hk; (try obtain ⟨ha_, hk1_⟩ := hk1_); (try obtain ⟨hb_, hk1_⟩ := hk1_); (try obtain ⟨hc_, hk1_⟩ := hk1_); (repeat' apply And.intro) <;> assumption))) hg hat)
                                have n3_ := Aside0.mk (Kd.R_after (ok := (fun k_ => some k_ ≠ (.slice Ao8 t296.length co8 : Value).ownBlock ∧ some k_ ≠ (.slice Ao9 t297.length co9 : Value).ownBlock ∧ some k_ ≠ (.slice Ao10 t298.length co10 : Value).ownBlock)) (by (with_reducible repeat (first | apply Kd.R_alloc | apply Kd.R_drewN | apply Kd.R_drew)); first | exact HO_10.out | exact Kd.R_mono HO_10.out (fun _ hk => by (obtain ⟨hk1_, hk2_⟩ := hk; (try obtain ⟨ha_, hk1_⟩ := hk1_); (try obtain ⟨hb_, hk1_⟩ := hk1_); (try obtain ⟨hc_, hk1_⟩ := hk1_); (repeat' apply And.intro) <;> assumption))) hg hat)
                                have n4_ := Aside0.mk (hb)
                                have n5_ := Aside0.mk ((show Kd.C (Kd.int .i64) w64 A61 y328.length y328 from by rw [Ny328.out, KA61.out]; exact Kd.C_drop (m := 1) (c := co59) ((Kd.R_reads' (Kd.R_after (ok := (fun k_ => some k_ ≠ (.slice Ao8 t296.length co8 : Value).ownBlock ∧ some k_ ≠ (.slice Ao9 t297.length co9 : Value).ownBlock ∧ some k_ ≠ (.slice Ao10 t298.length co10 : Value).ownBlock)) (by (with_reducible repeat (first | apply Kd.R_alloc | apply Kd.R_drewN | apply Kd.R_drew)); first | exact HO_10.out | exact Kd.R_mono HO_10.out (fun _ hk => by (obtain ⟨hk1_, hk2_⟩ := hk; (try obtain ⟨ha_, hk1_⟩ := hk1_); (try obtain ⟨hb_, hk1_⟩ := hk1_); (try obtain ⟨hc_, hk1_⟩ := hk1_); (repeat' apply And.intro) <;> assumption))) hg hat)).2.2) KL61.out ((Kd.R_reads' (Kd.R_after (ok := (fun k_ => some k_ ≠ (.slice Ao8 t296.length co8 : Value).ownBlock ∧ some k_ ≠ (.slice Ao9 t297.length co9 : Value).ownBlock ∧ some k_ ≠ (.slice Ao10 t298.length co10 : Value).ownBlock)) (by (with_reducible repeat (first | apply Kd.R_alloc | apply Kd.R_drewN | apply Kd.R_drew)); first | exact HO_10.out | exact Kd.R_mono HO_10.out (fun _ hk => by (obtain ⟨hk1_, hk2_⟩ := hk; (try obtain ⟨ha_, hk1_⟩ := hk1_); (try obtain ⟨hb_, hk1_⟩ := hk1_); (try obtain ⟨hc_, hk1_⟩ := hk1_); (repeat' apply And.intro) <;> assumption))) hg hat)).2.1)))
                                have n6_ := Aside0.mk (ho)
                                clear HO_3
                                clear HO_4
                                clear HO_5
                                clear HO_10
                                clear HB
                                clear HR331
                                clear HO324
                                have HO_3 := n0_
                                have HO_4 := n1_
                                have HO_5 := n2_
                                have HO_10 := n3_
                                have HB := n4_
                                have HR331 := n5_
                                have HO327 := n6_
                                clear n0_ n1_ n2_ n3_ n4_ n5_ n6_
                                clear ho hb hg hat
                                refine hK.out _ _ trivial (fun hHeld => ?_)
                                clear hK K
                                refine norm_ (a' := ?_) ?_ ?_
                                rotate_left
                                · show Act.put _ (some 78) _ = _
                                  simp only [Act.put, List.setIfInBounds_toArray, List.set_cons_zero, List.set_cons_succ, i64_w, i32_w]
                                  rfl
                                refine one_ (i := 5) (N := some 81) #[true, true, true, true, true, true, false] rfl rfl (by kernel_rfl) (by decide) (fun K hK => ?_)
                                refine Kd.R_append_rows_step (Kd.int .i64) (w0 := w) w.heap.size (by rfl) (.tmp 78) (.tmp 80) 23 3 (.int .i64 0) 8 rfl Try.underlying23 info3 rfl (by decide) (by omega) v326 y325 y328 _ _ _ (fun k_ => some k_ ≠ (.slice Ao8 t296.length co8 : Value).ownBlock ∧ some k_ ≠ (.slice Ao9 t297.length co9 : Value).ownBlock ∧ some k_ ≠ (.slice Ao10 t298.length co10 : Value).ownBlock ∧ some k_ ≠ (.slice Ao59 x10_2.length co59 : Value).ownBlock) (fun _ => False) rfl rfl ?aO ?aR (fun _ _ h => h) (fun _ h => h.elim) ?aF ?aB ?aS ?aL ?_
                                (case aR => repeat (first | exact (by repeat (first | (with_reducible exact HR331.out) | (with_reducible refine Kd.C_alloc ?_ _) | (with_reducible refine Kd.C_drewN ?_ _) | (with_reducible refine Kd.C_drew ?_) | exact HR331.out)) | (with_reducible refine Kd.C_alloc ?_ _) | (with_reducible refine Kd.C_drewN ?_ _) | (with_reducible refine Kd.C_drew ?_)))
                                (case aB => exact (by repeat (first | (with_reducible first | exact HB.out | apply below_alloc | apply pw_below_drewN | apply below_drew1) | exact HB.out)))
                                (case aF => exact (fun k_ hk => ⟨Kd.fresh' (Kd.R_lt (by (with_reducible repeat (first | apply Kd.R_alloc | apply Kd.R_drewN | apply Kd.R_drew)); exact HO_3.out)) k_ hk, Kd.fresh' (Kd.R_lt (by (with_reducible repeat (first | apply Kd.R_alloc | apply Kd.R_drewN | apply Kd.R_drew)); exact HO_4.out)) k_ hk, Kd.fresh' (Kd.R_lt (by (with_reducible repeat (first | apply Kd.R_alloc | apply Kd.R_drewN | apply Kd.R_drew)); exact HO_5.out)) k_ hk, Kd.fresh' (Kd.R_lt (by (with_reducible repeat (first | apply Kd.R_alloc | apply Kd.R_drewN | apply Kd.R_drew)); exact HO_10.out)) k_ hk⟩))
                                (case aO => exact (by (with_reducible repeat (first | apply Kd.R_alloc | apply Kd.R_drewN | apply Kd.R_drew)); exact HO327.out))
                                (case aS => exact (below_size (by repeat (first | (with_reducible first | exact HB.out | apply below_alloc | apply pw_below_drewN | apply below_drew1) | exact HB.out))))
                                (case aL => have := LMc27.out; omega)
                                intro v333 w65 ho hb hg hat
                                rw [← Ny332.out] at ho
                                have n0_ := Aside0.mk (Kd.R_after (ok := (fun k_ => some k_ ≠ (.slice Ao9 t297.length co9 : Value).ownBlock ∧ some k_ ≠ (.slice Ao10 t298.length co10 : Value).ownBlock ∧ some k_ ≠ (.slice Ao59 x10_2.length co59 : Value).ownBlock)) (by (with_reducible repeat (first | apply Kd.R_alloc | apply Kd.R_drewN | apply Kd.R_drew)); first | exact HO_3.out | exact Kd.R_mono HO_3.out (fun _ hk => by (obtain ⟨hk1_, hk2_⟩ := hk; (try obtain ⟨ha_, hk1_⟩ := hk1_); (try obtain ⟨hb_, hk1_⟩ := hk1_); (try obtain ⟨hc_, hk1_⟩ := hk1_); (repeat' apply And.intro) <;> assumption))) hg hat)
                                have n1_ := Aside0.mk (Kd.R_after (ok := (fun k_ => some k_ ≠ (.slice Ao8 t296.length co8 : Value).ownBlock ∧ some k_ ≠ (.slice Ao10 t298.length co10 : Value).ownBlock ∧ some k_ ≠ (.slice Ao59 x10_2.length co59 : Value).ownBlock)) (by (with_reducible repeat (first | apply Kd.R_alloc | apply Kd.R_drewN | apply Kd.R_drew)); first | exact HO_4.out | exact Kd.R_mono HO_4.out (fun _ hk => by (obtain ⟨hk1_, hk2_⟩ := hk; (try obtain ⟨ha_, hk1_⟩ := hk1_); (try obtain ⟨hb_, hk1_⟩ := hk1_); (try obtain ⟨hc_, hk1_⟩ := hk1_); (repeat' apply And.intro) <;> assumption))) hg hat)
                                have n2_ := Aside0.mk (Kd.R_after (ok := (fun k_ => some k_ ≠ (.slice Ao8 t296.length co8 : Value).ownBlock ∧ some k_ ≠ (.slice Ao9 t297.length co9 : Value).ownBlock ∧ some k_ ≠ (.slice Ao59 x10_2.length co59 : Value).ownBlock)) (by (with_reducible repeat (first | apply Kd.R_alloc | apply Kd.R_drewN | apply Kd.R_drew)); first | exact HO_5.out | exact Kd.R_mono HO_5.out (fun _ hk => by (obtain ⟨hk1_, hk2_⟩ := hk; (try obtain ⟨ha_, hk1_⟩ := hk1_); (try obtain ⟨hb_, hk1_⟩ := hk1_); (try obtain ⟨hc_, hk1_⟩ := hk1_); (repeat' apply And.intro) <;> assumption))) hg hat)
                                have n3_ := Aside0.mk (Kd.R_after (ok := (fun k_ => some k_ ≠ (.slice Ao8 t296.length co8 : Value).ownBlock ∧ some k_ ≠ (.slice Ao9 t297.length co9 : Value).ownBlock ∧ some k_ ≠ (.slice Ao10 t298.length co10 : Value).ownBlock)) (by (with_reducible repeat (first | apply Kd.R_alloc | apply Kd.R_drewN | apply Kd.R_drew)); first | exact HO_10.out | exact Kd.R_mono HO_10.out (fun _ hk => by (obtain ⟨hk1_, hk2_⟩ := hk; (try obtain ⟨ha_, hk1_⟩ := hk1_); (try obtain ⟨hb_, hk1_⟩ := hk1_); (try obtain ⟨hc_, hk1_⟩ := hk1_); (repeat' apply And.intro) <;> assumption))) hg hat)
                                have n4_ := Aside0.mk (hb)
                                have n5_ := Aside0.mk ((show Kd.C (Kd.int .i64) w65 A61 y328.length y328 from by rw [Ny328.out, KA61.out]; exact Kd.C_drop (m := 1) (c := co59) ((Kd.R_reads' (Kd.R_after (ok := (fun k_ => some k_ ≠ (.slice Ao8 t296.length co8 : Value).ownBlock ∧ some k_ ≠ (.slice Ao9 t297.length co9 : Value).ownBlock ∧ some k_ ≠ (.slice Ao10 t298.length co10 : Value).ownBlock)) (by (with_reducible repeat (first | apply Kd.R_alloc | apply Kd.R_drewN | apply Kd.R_drew)); first | exact HO_10.out | exact Kd.R_mono HO_10.out (fun _ hk => by (obtain ⟨hk1_, hk2_⟩ := hk; (try obtain ⟨ha_, hk1_⟩ := hk1_); (try obtain ⟨hb_, hk1_⟩ := hk1_); (try obtain ⟨hc_, hk1_⟩ := hk1_); (repeat' apply And.intro) <;> assumption))) hg hat)).2.2) KL61.out ((Kd.R_reads' (Kd.R_after (ok := (fun k_ => some k_ ≠ (.slice Ao8 t296.length co8 : Value).ownBlock ∧ some k_ ≠ (.slice Ao9 t297.length co9 : Value).ownBlock ∧ some k_ ≠ (.slice Ao10 t298.length co10 : Value).ownBlock)) (by (with_reducible repeat (first | apply Kd.R_alloc | apply Kd.R_drewN | apply Kd.R_drew)); first | exact HO_10.out | exact Kd.R_mono HO_10.out (fun _ hk => by (obtain ⟨hk1_, hk2_⟩ := hk; (try obtain ⟨ha_, hk1_⟩ := hk1_); (try obtain ⟨hb_, hk1_⟩ := hk1_); (try obtain ⟨hc_, hk1_⟩ := hk1_); (repeat' apply And.intro) <;> assumption))) hg hat)).2.1)))
                                have n6_ := Aside0.mk (ho)
                                clear HO_3
                                clear HO_4
                                clear HO_5
                                clear HO_10
                                clear HB
                                clear HR331
                                clear HO327
                                have HO_3 := n0_
                                have HO_4 := n1_
                                have HO_5 := n2_
                                have HO_10 := n3_
                                have HB := n4_
                                have HR331 := n5_
                                have HO334 := n6_
                                clear n0_ n1_ n2_ n3_ n4_ n5_ n6_
                                clear ho hb hg hat
                                refine hK.out _ _ trivial (fun hHeld => ?_)
                                clear hK K
                                refine norm_ (a' := ?_) ?_ ?_
                                rotate_left
                                · show Act.put _ (some 81) _ = _
                                  simp only [Act.put, List.setIfInBounds_toArray, List.set_cons_zero, List.set_cons_succ, i64_w, i32_w]
                                  rfl
                                refine pure_ (i := 6) (N := some 14) (v := ?_) (a' := ?_) #[true, true, true, true, true, true, true] rfl rfl (by kernel_rfl) (fun _ _ _ h => h) (Or.inl ⟨by rfl, ?_⟩) ?_ ?_
                                rotate_left
                                · intro w'
                                  go_simp
                                  with_reducible rfl
                                rotate_left
                                · simp only [Act.put, List.setIfInBounds_toArray, List.set_cons_zero, List.set_cons_succ, i64_w, i32_w]
                                  rfl
                                refine done_ (by kernel_rfl) ?_
                                obtain ⟨Ao66, co66, eo66⟩ := Kd.R_slice HO334.out
                                subst eo66
                                try go_wp2_with (first | ((with_reducible refine gate_callee (f := 14) rfl ?_); refine goesL_ (some 86) rfl rfl Try.func14 (by kernel_rfl) rfl #[.slice Ao8 t296.length co8, .slice Ao9 t297.length co9, .slice Ao66 y332.length co66] rfl (by (try simp only [List.map_toArray, List.map_cons, List.map_nil]); first | done | rfl | (simp only [List.length_drop, List.length_take]; rfl)) ?_; (with_reducible refine (impl_ClimbOf.calls k2 _ _ t296 _ _ t297 _ _ y332 t335 false _ ?side1 ?side2 ?side3 ?side4 ?side5 ?side6 A28.out).mono ?_); (case side1 => repeat (first | exact (Kd.R_reads' HO_3.out).2.2 | (with_reducible refine Kd.C_alloc ?_ _) | (with_reducible refine Kd.C_drewN ?_ _) | (with_reducible refine Kd.C_drew ?_))); (case side2 => exact (Kd.R_reads' HO_3.out).2.1); (case side3 => repeat (first | exact (Kd.R_reads' HO_4.out).2.2 | (with_reducible refine Kd.C_alloc ?_ _) | (with_reducible refine Kd.C_drewN ?_ _) | (with_reducible refine Kd.C_drew ?_))); (case side4 => exact (Kd.R_reads' HO_4.out).2.1); (case side5 => repeat (first | exact (Kd.R_reads' HO334.out).2.2 | (with_reducible refine Kd.C_alloc ?_ _) | (with_reducible refine Kd.C_drewN ?_ _) | (with_reducible refine Kd.C_drew ?_))); (case side6 => exact (Kd.R_reads' HO334.out).2.1); rintro e w' ⟨rfl, ⟨nd, rfl⟩⟩; refine ⟨_, rfl, ?_⟩))
                                go_ret
                                exact ⟨by first | rfl | (simp [errW_none, errW_some] <;> rfl) | (simp [*, errW_none, errW_some] <;> rfl), by repeat (first | (with_reducible first | exact HB.out | apply below_alloc | apply pw_below_drewN | apply below_drew1) | exact HB.out)⟩
                              · rw [if_neg c58] at H
                                have c58b0 : decide (t305 < (t298.length : Int)) = false := decide_eq_false c58
                                clear c58
                                obtain rfl := Option.some.inj H
                                obtain ⟨Ao67, co67, eo67⟩ := Kd.R_slice HO_10.out
                                subst eo67
                                try go_wp2_with (first | ((with_reducible refine gate_callee (f := 14) rfl ?_); refine goesL_ (some 73) rfl rfl Try.func14 (by kernel_rfl) rfl #[.slice Ao8 t296.length co8, .slice Ao9 t297.length co9, .slice Ao67 x10_2.length co67] rfl (by (try simp only [List.map_toArray, List.map_cons, List.map_nil]); first | done | rfl | (simp only [List.length_drop, List.length_take]; rfl)) ?_; (with_reducible refine (impl_ClimbOf.calls k2 _ _ t296 _ _ t297 _ _ x10_2 t320 true _ ?side1 ?side2 ?side3 ?side4 ?side5 ?side6 A24.out).mono ?_); (case side1 => repeat (first | exact (Kd.R_reads' HO_3.out).2.2 | (with_reducible refine Kd.C_alloc ?_ _) | (with_reducible refine Kd.C_drewN ?_ _) | (with_reducible refine Kd.C_drew ?_))); (case side2 => exact (Kd.R_reads' HO_3.out).2.1); (case side3 => repeat (first | exact (Kd.R_reads' HO_4.out).2.2 | (with_reducible refine Kd.C_alloc ?_ _) | (with_reducible refine Kd.C_drewN ?_ _) | (with_reducible refine Kd.C_drew ?_))); (case side4 => exact (Kd.R_reads' HO_4.out).2.1); (case side5 => repeat (first | exact (Kd.R_reads' HO_10.out).2.2 | (with_reducible refine Kd.C_alloc ?_ _) | (with_reducible refine Kd.C_drewN ?_ _) | (with_reducible refine Kd.C_drew ?_))); (case side6 => exact (Kd.R_reads' HO_10.out).2.1); rintro e w' ⟨rfl, ⟨nd, rfl⟩⟩; refine ⟨_, rfl, ?_⟩))
                                (try (rw [drewN_self wr]; generalize hq_ : World.drewN wr _ = wr; have hcq_ := fun a_ : Addr => cell_at_q hq_ a_; have hfq_ := fun a_ : Addr => frozen_at_q hq_ a_; have n0_ : Aside0 (Kd.R (Kd.int .i64) 3 wr w.heap.size (fun k_ => some k_ ≠ (.slice Ao8 t296.length co8 : Value).ownBlock ∧ some k_ ≠ (.slice Ao9 t297.length co9 : Value).ownBlock ∧ some k_ ≠ (.slice Ao10 t298.length co10 : Value).ownBlock) (.slice Ao67 x10_2.length co67) x10_2) := ⟨by rw [← hq_]; exact (by (with_reducible repeat (first | apply Kd.R_alloc | apply Kd.R_drewN | apply Kd.R_drew)); exact HO_10.out)⟩; have n1_ : Aside0 (Kd.R (Kd.int .i64) 3 wr w.heap.size (fun k_ => some k_ ≠ (.slice Ao67 x10_2.length co67 : Value).ownBlock ∧ some k_ ≠ (.slice Ao9 t297.length co9 : Value).ownBlock ∧ some k_ ≠ (.slice Ao10 t298.length co10 : Value).ownBlock) (.slice Ao8 t296.length co8) t296) := ⟨by rw [← hq_]; exact (by (with_reducible repeat (first | apply Kd.R_alloc | apply Kd.R_drewN | apply Kd.R_drew)); exact Kd.R_mono HO_3.out (fun _ hk => ⟨hk.2.2, ⟨hk.1, hk.2.1⟩⟩))⟩; have n2_ : Aside0 (Kd.R (Kd.int .i64) 3 wr w.heap.size (fun k_ => some k_ ≠ (.slice Ao67 x10_2.length co67 : Value).ownBlock ∧ some k_ ≠ (.slice Ao8 t296.length co8 : Value).ownBlock ∧ some k_ ≠ (.slice Ao10 t298.length co10 : Value).ownBlock) (.slice Ao9 t297.length co9) t297) := ⟨by rw [← hq_]; exact (by (with_reducible repeat (first | apply Kd.R_alloc | apply Kd.R_drewN | apply Kd.R_drew)); exact Kd.R_mono HO_4.out (fun _ hk => ⟨hk.2.2, ⟨hk.1, hk.2.1⟩⟩))⟩; have n3_ : Aside0 (Kd.R (Kd.int .i64) 3 wr w.heap.size (fun k_ => some k_ ≠ (.slice Ao67 x10_2.length co67 : Value).ownBlock ∧ some k_ ≠ (.slice Ao8 t296.length co8 : Value).ownBlock ∧ some k_ ≠ (.slice Ao9 t297.length co9 : Value).ownBlock) (.slice Ao10 t298.length co10) t298) := ⟨by rw [← hq_]; exact (by (with_reducible repeat (first | apply Kd.R_alloc | apply Kd.R_drewN | apply Kd.R_drew)); exact Kd.R_mono HO_5.out (fun _ hk => ⟨hk.2.2, ⟨hk.1, hk.2.1⟩⟩))⟩; have n4_ : Aside0 (Below w.heap.size w wr) := ⟨by rw [← hq_]; exact (by repeat (first | (with_reducible first | exact HB.out | apply below_alloc | apply pw_below_drewN | apply below_drew1) | exact HB.out))⟩; clear HO_10 HO_3 HO_4 HO_5 HB hq_; have HO_10 := n0_; have HO_3 := n1_; have HO_4 := n2_; have HO_5 := n3_; have HB := n4_; clear n0_ n1_ n2_ n3_ n4_))
                                have n0_ := Aside0.mk (Kd.R_drew HO_3.out)
                                have n1_ := Aside0.mk (Kd.R_drew HO_4.out)
                                have n2_ := Aside0.mk (Kd.R_drew HO_5.out)
                                have n3_ := Aside0.mk (Kd.R_drew HO_10.out)
                                have n4_ := Aside0.mk (below_drew1 HB.out)
                                clear HO_3
                                clear HO_4
                                clear HO_5
                                clear HO_10
                                clear HB
                                have HO_3 := n0_
                                have HO_4 := n1_
                                have HO_5 := n2_
                                have HO_10 := n3_
                                have HB := n4_
                                clear n0_ n1_ n2_ n3_ n4_
                                have q69 : (1 : Int) ≤ ((x10_2.length : Int) : Int) := of_decide_eq_true (by first | (with_reducible assumption) | assumption)
                                obtain ⟨i069, hi069, _, hsz69, _⟩ := info_parts info3
                                have hroom69 : x10_2.length ≤ co67 := (Kd.R_reads' HO_10.out).2.1
                                have hC69 : Kd.C (Kd.int .i64) _ Ao67 x10_2.length x10_2 := (Kd.R_reads' HO_10.out).2.2
                                have hcut69 := cut_from (P := Try.prog) 23 3 .i64 Try.underlying23 hi069 1 hsz69 Ao67 x10_2.length co67 1 (by omega) q69
                                have hr69 := Kd.C_drop (m := (1 : Int).toNat) (c := co67) hC69 (by omega) hroom69
                                obtain ⟨A69, hA69⟩ : ∃ A1, A1 = (if co67 = (1 : Int).toNat then Ao67 else (Ao67 : Option Addr).map (·.add ((1 : Int).toNat * 1))) := ⟨_, rfl⟩
                                obtain ⟨c69, hc69⟩ : ∃ c1, c1 = co67 - (1 : Int).toNat := ⟨_, rfl⟩
                                have hy69 : y328.length = x10_2.length - (1 : Int).toNat := (by rw [Ny328.out, List.length_drop] <;> omega)
                                rw [show (x10_2).drop (1 : Int).toNat = y328 from Ny328.out.symm] at hr69
                                replace hr69 : Kd.C (Kd.int .i64) _ A69 y328.length y328 := (by rw [hA69]; exact hr69)
                                rw [← hy69, ← hA69, ← hc69] at hcut69
                                have HR331 := Aside0.mk hr69
                                have HC331 := Aside0.mk (show y328.length ≤ c69 from by rw [hy69, hc69]; exact Nat.sub_le_sub_right hroom69 _)
                                clear hr69 hC69 hroom69 hi069 hsz69 hc69
                                have KY69 := Aside0.mk hy69
                                have KA69 := Aside0.mk hA69
                                clear hy69 hA69
                                have KL69 := Aside0.mk (show 1 ≤ x10_2.length from by omega)
                                replace q69 := eq_true q69
                                refine start_ (n := 7) (S := fun w' => True) (ds := []) #[false, false, false, false, false, false, false] (by kernel_rfl) rfl rfl trivial (fun hHeld => ?_)
                                generalize wr.drew = w68 at HO_3 HO_4 HO_5 HO_10 HB HR331 hHeld ⊢
                                refine pure_ (i := 1) (N := some 77) (v := ?_) (a' := ?_) #[false, true, false, false, false, false, false] rfl rfl (by kernel_rfl) (fun _ _ _ h => h) (Or.inl ⟨by rfl, ?_⟩) ?_ ?_
                                rotate_left
                                · intro w'
                                  go_simp
                                  with_reducible rfl
                                rotate_left
                                · simp only [Act.put, List.setIfInBounds_toArray, List.set_cons_zero, List.set_cons_succ, i64_w, i32_w]
                                  rfl
                                refine pure_ (i := 3) (N := some 79) (v := ?_) (a' := ?_) #[false, true, false, true, false, false, false] rfl rfl (by kernel_rfl) (fun _ _ _ h => h) (Or.inl ⟨by rfl, ?_⟩) ?_ ?_
                                rotate_left
                                · intro w'
                                  go_simp
                                  with_reducible rfl
                                rotate_left
                                · simp only [Act.put, List.setIfInBounds_toArray, List.set_cons_zero, List.set_cons_succ, i64_w, i32_w]
                                  rfl
                                refine pure_ (i := 4) (N := some 80) (v := ?_) (a' := ?_) #[false, true, false, true, true, false, false] rfl rfl (by kernel_rfl) (fun _ _ _ h => h) (Or.inl ⟨by rfl, ?_⟩) ?_ ?_
                                rotate_left
                                · intro w'
                                  go_simp
                                  with_reducible rfl
                                rotate_left
                                · simp only [Act.put, List.setIfInBounds_toArray, List.set_cons_zero, List.set_cons_succ, i64_w, i32_w]
                                  rfl
                                refine one_ (i := 0) (N := some 76) #[true, true, false, true, true, false, false] rfl rfl (by kernel_rfl) (by decide) (fun K hK => ?_)
                                refine Kd.R_lit_step (Kd.int .i64) _ 3 ?hg (N := 76) ?hd (xs := ([] : List Int)) (inner := []) (ok := fun _ => True) (okp := fun _ => True) ?hr ?hp (fun _ hk => hk) trivial (Below.refl _ _) (Nat.le_refl _) (by simp) ?_; (case hd => rfl); (case hg => rfl); (case hr => first | (go_simp; done) | (go_simp; rfl)); (case hp => exact (Reps.none _ _))
                                intro v323 w70 ho71 hb hg_ hnew_
                                clear hg_ hnew_
                                (first | rw [← Ny322.out] at ho71 | (simp only [Int.reduceToNat] at ho71; rw [← Ny322.out] at ho71))
                                have n0_ := Aside0.mk (Kd.R_elder' (by (with_reducible repeat (first | apply Kd.R_alloc | apply Kd.R_drewN | apply Kd.R_drew)); exact HO_3.out) (Kd.R_base ho71) hb)
                                have n1_ := Aside0.mk (Kd.R_elder' (by (with_reducible repeat (first | apply Kd.R_alloc | apply Kd.R_drewN | apply Kd.R_drew)); exact HO_4.out) (Kd.R_base ho71) hb)
                                have n2_ := Aside0.mk (Kd.R_elder' (by (with_reducible repeat (first | apply Kd.R_alloc | apply Kd.R_drewN | apply Kd.R_drew)); exact HO_5.out) (Kd.R_base ho71) hb)
                                have n3_ := Aside0.mk (Kd.R_elder' (by (with_reducible repeat (first | apply Kd.R_alloc | apply Kd.R_drewN | apply Kd.R_drew)); exact HO_10.out) (Kd.R_base ho71) hb)
                                have n4_ := Aside0.mk (Kd.R_lower (Kd.R_new' (Kd.R_new' (Kd.R_new' (Kd.R_new' ho71 (Kd.R_lt (by (with_reducible repeat (first | apply Kd.R_alloc | apply Kd.R_drewN | apply Kd.R_drew)); exact HO_3.out))) (Kd.R_lt (by (with_reducible repeat (first | apply Kd.R_alloc | apply Kd.R_drewN | apply Kd.R_drew)); exact HO_4.out))) (Kd.R_lt (by (with_reducible repeat (first | apply Kd.R_alloc | apply Kd.R_drewN | apply Kd.R_drew)); exact HO_5.out))) (Kd.R_lt (by (with_reducible repeat (first | apply Kd.R_alloc | apply Kd.R_drewN | apply Kd.R_drew)); exact HO_10.out))) (below_size (by repeat (first | (with_reducible first | exact HB.out | apply below_alloc | apply pw_below_drewN | apply below_drew1) | exact HB.out))))
                                have n5_ := Aside0.mk (Kd.C_below (by repeat (first | (with_reducible exact HR331.out) | (with_reducible refine Kd.C_alloc ?_ _) | (with_reducible refine Kd.C_drewN ?_ _) | (with_reducible refine Kd.C_drew ?_) | exact HR331.out)) hb)
                                have n6_ := Aside0.mk (below_step (by repeat (first | (with_reducible first | exact HB.out | apply below_alloc | apply pw_below_drewN | apply below_drew1) | exact HB.out)) hb)
                                clear HO_3
                                clear HO_4
                                clear HO_5
                                clear HO_10
                                clear HR331
                                clear HB
                                have HO_3 := n0_
                                have HO_4 := n1_
                                have HO_5 := n2_
                                have HO_10 := n3_
                                have HO324 := n4_
                                have HR331 := n5_
                                have HB := n6_
                                clear n0_ n1_ n2_ n3_ n4_ n5_ n6_
                                clear hb ho71
                                refine hK.out _ _ trivial (fun hHeld => ?_)
                                clear hK K
                                refine norm_ (a' := ?_) ?_ ?_
                                rotate_left
                                · show Act.put _ (some 76) _ = _
                                  simp only [Act.put, List.setIfInBounds_toArray, List.set_cons_zero, List.set_cons_succ, i64_w, i32_w]
                                  rfl
                                refine one_ (i := 2) (N := some 78) #[true, true, true, true, true, false, false] rfl rfl (by kernel_rfl) (by decide) (fun K hK => ?_)
                                refine Kd.R_append_rows_step (Kd.int .i64) (w0 := w) w.heap.size (by rfl) (.tmp 76) (.tmp 77) 23 3 (.int .i64 0) 8 rfl Try.underlying23 info3 rfl (by decide) (by omega) v323 y322 t298 _ _ _ (fun k_ => some k_ ≠ (.slice Ao8 t296.length co8 : Value).ownBlock ∧ some k_ ≠ (.slice Ao9 t297.length co9 : Value).ownBlock ∧ some k_ ≠ (.slice Ao10 t298.length co10 : Value).ownBlock ∧ some k_ ≠ (.slice Ao67 x10_2.length co67 : Value).ownBlock) (fun _ => False) rfl rfl ?aO ?aR (fun _ _ h => h) (fun _ h => h.elim) ?aF ?aB ?aS ?aL ?_
                                (case aR => repeat (first | exact (Kd.R_reads' HO_5.out).2.2 | (with_reducible refine Kd.C_alloc ?_ _) | (with_reducible refine Kd.C_drewN ?_ _) | (with_reducible refine Kd.C_drew ?_)))
                                (case aB => exact (by repeat (first | (with_reducible first | exact HB.out | apply below_alloc | apply pw_below_drewN | apply below_drew1) | exact HB.out)))
                                (case aF => exact (fun k_ hk => ⟨Kd.fresh' (Kd.R_lt (by (with_reducible repeat (first | apply Kd.R_alloc | apply Kd.R_drewN | apply Kd.R_drew)); exact HO_3.out)) k_ hk, Kd.fresh' (Kd.R_lt (by (with_reducible repeat (first | apply Kd.R_alloc | apply Kd.R_drewN | apply Kd.R_drew)); exact HO_4.out)) k_ hk, Kd.fresh' (Kd.R_lt (by (with_reducible repeat (first | apply Kd.R_alloc | apply Kd.R_drewN | apply Kd.R_drew)); exact HO_5.out)) k_ hk, Kd.fresh' (Kd.R_lt (by (with_reducible repeat (first | apply Kd.R_alloc | apply Kd.R_drewN | apply Kd.R_drew)); exact HO_10.out)) k_ hk⟩))
                                (case aO => exact (by (with_reducible repeat (first | apply Kd.R_alloc | apply Kd.R_drewN | apply Kd.R_drew)); exact Kd.R_mono HO324.out (fun _ hk => ⟨hk.1.1.1.2, ⟨hk.1.1.2, ⟨hk.1.2, hk.2⟩⟩⟩)))
                                (case aS => exact (below_size (by repeat (first | (with_reducible first | exact HB.out | apply below_alloc | apply pw_below_drewN | apply below_drew1) | exact HB.out))))
                                (case aL => have := LMc25.out; omega)
                                intro v326 w72 ho hb hg hat
                                rw [← Ny325.out] at ho
                                have n0_ := Aside0.mk (Kd.R_after (ok := (fun k_ => some k_ ≠ (.slice Ao9 t297.length co9 : Value).ownBlock ∧ some k_ ≠ (.slice Ao10 t298.length co10 : Value).ownBlock ∧ some k_ ≠ (.slice Ao67 x10_2.length co67 : Value).ownBlock)) (by (with_reducible repeat (first | apply Kd.R_alloc | apply Kd.R_drewN | apply Kd.R_drew)); first | exact HO_3.out | exact Kd.R_mono HO_3.out (fun _ hk => by (obtain ⟨hk1_, hk2_⟩ := hk; (try obtain ⟨ha_, hk1_⟩ := hk1_); (try obtain ⟨hb_, hk1_⟩ := hk1_); (try obtain ⟨hc_, hk1_⟩ := hk1_); (repeat' apply And.intro) <;> assumption))) hg hat)
                                have n1_ := Aside0.mk (Kd.R_after (ok := (fun k_ => some k_ ≠ (.slice Ao8 t296.length co8 : Value).ownBlock ∧ some k_ ≠ (.slice Ao10 t298.length co10 : Value).ownBlock ∧ some k_ ≠ (.slice Ao67 x10_2.length co67 : Value).ownBlock)) (by (with_reducible repeat (first | apply Kd.R_alloc | apply Kd.R_drewN | apply Kd.R_drew)); first | exact HO_4.out | exact Kd.R_mono HO_4.out (fun _ hk => by (obtain ⟨hk1_, hk2_⟩ := hk; (try obtain ⟨ha_, hk1_⟩ := hk1_); (try obtain ⟨hb_, hk1_⟩ := hk1_); (try obtain ⟨hc_, hk1_⟩ := hk1_); (repeat' apply And.intro) <;> assumption))) hg hat)
                                have n2_ := Aside0.mk (Kd.R_after (ok := (fun k_ => some k_ ≠ (.slice Ao8 t296.length co8 : Value).ownBlock ∧ some k_ ≠ (.slice Ao9 t297.length co9 : Value).ownBlock ∧ some k_ ≠ (.slice Ao67 x10_2.length co67 : Value).ownBlock)) (by (with_reducible repeat (first | apply Kd.R_alloc | apply Kd.R_drewN | apply Kd.R_drew)); first | exact HO_5.out | exact Kd.R_mono HO_5.out (fun _ hk => by (obtain ⟨hk1_, hk2_⟩ := hk; (try obtain ⟨ha_, hk1_⟩ := hk1_); (try obtain ⟨hb_, hk1_⟩ := hk1_); (try obtain ⟨hc_, hk1_⟩ := hk1_); (repeat' apply And.intro) <;> assumption))) hg hat)
                                have n3_ := Aside0.mk (Kd.R_after (ok := (fun k_ => some k_ ≠ (.slice Ao8 t296.length co8 : Value).ownBlock ∧ some k_ ≠ (.slice Ao9 t297.length co9 : Value).ownBlock ∧ some k_ ≠ (.slice Ao10 t298.length co10 : Value).ownBlock)) (by (with_reducible repeat (first | apply Kd.R_alloc | apply Kd.R_drewN | apply Kd.R_drew)); first | exact HO_10.out | exact Kd.R_mono HO_10.out (fun _ hk => by (obtain ⟨hk1_, hk2_⟩ := hk; (try obtain ⟨ha_, hk1_⟩ := hk1_); (try obtain ⟨hb_, hk1_⟩ := hk1_); (try obtain ⟨hc_, hk1_⟩ := hk1_); (repeat' apply And.intro) <;> assumption))) hg hat)
                                have n4_ := Aside0.mk (hb)
                                have n5_ := Aside0.mk ((show Kd.C (Kd.int .i64) w72 A69 y328.length y328 from by rw [Ny328.out, KA69.out]; exact Kd.C_drop (m := 1) (c := co67) ((Kd.R_reads' (Kd.R_after (ok := (fun k_ => some k_ ≠ (.slice Ao8 t296.length co8 : Value).ownBlock ∧ some k_ ≠ (.slice Ao9 t297.length co9 : Value).ownBlock ∧ some k_ ≠ (.slice Ao10 t298.length co10 : Value).ownBlock)) (by (with_reducible repeat (first | apply Kd.R_alloc | apply Kd.R_drewN | apply Kd.R_drew)); first | exact HO_10.out | exact Kd.R_mono HO_10.out (fun _ hk => by (obtain ⟨hk1_, hk2_⟩ := hk; (try obtain ⟨ha_, hk1_⟩ := hk1_); (try obtain ⟨hb_, hk1_⟩ := hk1_); (try obtain ⟨hc_, hk1_⟩ := hk1_); (repeat' apply And.intro) <;> assumption))) hg hat)).2.2) KL69.out ((Kd.R_reads' (Kd.R_after (ok := (fun k_ => some k_ ≠ (.slice Ao8 t296.length co8 : Value).ownBlock ∧ some k_ ≠ (.slice Ao9 t297.length co9 : Value).ownBlock ∧ some k_ ≠ (.slice Ao10 t298.length co10 : Value).ownBlock)) (by (with_reducible repeat (first | apply Kd.R_alloc | apply Kd.R_drewN | apply Kd.R_drew)); first | exact HO_10.out | exact Kd.R_mono HO_10.out (fun _ hk => by (obtain ⟨hk1_, hk2_⟩ := hk; (try obtain ⟨ha_, hk1_⟩ := hk1_); (try obtain ⟨hb_, hk1_⟩ := hk1_); (try obtain ⟨hc_, hk1_⟩ := hk1_); (repeat' apply And.intro) <;> assumption))) hg hat)).2.1)))
                                have n6_ := Aside0.mk (ho)
                                clear HO_3
                                clear HO_4
                                clear HO_5
                                clear HO_10
                                clear HB
                                clear HR331
                                clear HO324
                                have HO_3 := n0_
                                have HO_4 := n1_
                                have HO_5 := n2_
                                have HO_10 := n3_
                                have HB := n4_
                                have HR331 := n5_
                                have HO327 := n6_
                                clear n0_ n1_ n2_ n3_ n4_ n5_ n6_
                                clear ho hb hg hat
                                refine hK.out _ _ trivial (fun hHeld => ?_)
                                clear hK K
                                refine norm_ (a' := ?_) ?_ ?_
                                rotate_left
                                · show Act.put _ (some 78) _ = _
                                  simp only [Act.put, List.setIfInBounds_toArray, List.set_cons_zero, List.set_cons_succ, i64_w, i32_w]
                                  rfl
                                refine one_ (i := 5) (N := some 81) #[true, true, true, true, true, true, false] rfl rfl (by kernel_rfl) (by decide) (fun K hK => ?_)
                                refine Kd.R_append_rows_step (Kd.int .i64) (w0 := w) w.heap.size (by rfl) (.tmp 78) (.tmp 80) 23 3 (.int .i64 0) 8 rfl Try.underlying23 info3 rfl (by decide) (by omega) v326 y325 y328 _ _ _ (fun k_ => some k_ ≠ (.slice Ao8 t296.length co8 : Value).ownBlock ∧ some k_ ≠ (.slice Ao9 t297.length co9 : Value).ownBlock ∧ some k_ ≠ (.slice Ao10 t298.length co10 : Value).ownBlock ∧ some k_ ≠ (.slice Ao67 x10_2.length co67 : Value).ownBlock) (fun _ => False) rfl rfl ?aO ?aR (fun _ _ h => h) (fun _ h => h.elim) ?aF ?aB ?aS ?aL ?_
                                (case aR => repeat (first | exact (by repeat (first | (with_reducible exact HR331.out) | (with_reducible refine Kd.C_alloc ?_ _) | (with_reducible refine Kd.C_drewN ?_ _) | (with_reducible refine Kd.C_drew ?_) | exact HR331.out)) | (with_reducible refine Kd.C_alloc ?_ _) | (with_reducible refine Kd.C_drewN ?_ _) | (with_reducible refine Kd.C_drew ?_)))
                                (case aB => exact (by repeat (first | (with_reducible first | exact HB.out | apply below_alloc | apply pw_below_drewN | apply below_drew1) | exact HB.out)))
                                (case aF => exact (fun k_ hk => ⟨Kd.fresh' (Kd.R_lt (by (with_reducible repeat (first | apply Kd.R_alloc | apply Kd.R_drewN | apply Kd.R_drew)); exact HO_3.out)) k_ hk, Kd.fresh' (Kd.R_lt (by (with_reducible repeat (first | apply Kd.R_alloc | apply Kd.R_drewN | apply Kd.R_drew)); exact HO_4.out)) k_ hk, Kd.fresh' (Kd.R_lt (by (with_reducible repeat (first | apply Kd.R_alloc | apply Kd.R_drewN | apply Kd.R_drew)); exact HO_5.out)) k_ hk, Kd.fresh' (Kd.R_lt (by (with_reducible repeat (first | apply Kd.R_alloc | apply Kd.R_drewN | apply Kd.R_drew)); exact HO_10.out)) k_ hk⟩))
                                (case aO => exact (by (with_reducible repeat (first | apply Kd.R_alloc | apply Kd.R_drewN | apply Kd.R_drew)); exact HO327.out))
                                (case aS => exact (below_size (by repeat (first | (with_reducible first | exact HB.out | apply below_alloc | apply pw_below_drewN | apply below_drew1) | exact HB.out))))
                                (case aL => have := LMc27.out; omega)
                                intro v333 w73 ho hb hg hat
                                rw [← Ny332.out] at ho
                                have n0_ := Aside0.mk (Kd.R_after (ok := (fun k_ => some k_ ≠ (.slice Ao9 t297.length co9 : Value).ownBlock ∧ some k_ ≠ (.slice Ao10 t298.length co10 : Value).ownBlock ∧ some k_ ≠ (.slice Ao67 x10_2.length co67 : Value).ownBlock)) (by (with_reducible repeat (first | apply Kd.R_alloc | apply Kd.R_drewN | apply Kd.R_drew)); first | exact HO_3.out | exact Kd.R_mono HO_3.out (fun _ hk => by (obtain ⟨hk1_, hk2_⟩ := hk; (try obtain ⟨ha_, hk1_⟩ := hk1_); (try obtain ⟨hb_, hk1_⟩ := hk1_); (try obtain ⟨hc_, hk1_⟩ := hk1_); (repeat' apply And.intro) <;> assumption))) hg hat)
                                have n1_ := Aside0.mk (Kd.R_after (ok := (fun k_ => some k_ ≠ (.slice Ao8 t296.length co8 : Value).ownBlock ∧ some k_ ≠ (.slice Ao10 t298.length co10 : Value).ownBlock ∧ some k_ ≠ (.slice Ao67 x10_2.length co67 : Value).ownBlock)) (by (with_reducible repeat (first | apply Kd.R_alloc | apply Kd.R_drewN | apply Kd.R_drew)); first | exact HO_4.out | exact Kd.R_mono HO_4.out (fun _ hk => by (obtain ⟨hk1_, hk2_⟩ := hk; (try obtain ⟨ha_, hk1_⟩ := hk1_); (try obtain ⟨hb_, hk1_⟩ := hk1_); (try obtain ⟨hc_, hk1_⟩ := hk1_); (repeat' apply And.intro) <;> assumption))) hg hat)
                                have n2_ := Aside0.mk (Kd.R_after (ok := (fun k_ => some k_ ≠ (.slice Ao8 t296.length co8 : Value).ownBlock ∧ some k_ ≠ (.slice Ao9 t297.length co9 : Value).ownBlock ∧ some k_ ≠ (.slice Ao67 x10_2.length co67 : Value).ownBlock)) (by (with_reducible repeat (first | apply Kd.R_alloc | apply Kd.R_drewN | apply Kd.R_drew)); first | exact HO_5.out | exact Kd.R_mono HO_5.out (fun _ hk => by (obtain ⟨hk1_, hk2_⟩ := hk; (try obtain ⟨ha_, hk1_⟩ := hk1_); (try obtain ⟨hb_, hk1_⟩ := hk1_); (try obtain ⟨hc_, hk1_⟩ := hk1_); (repeat' apply And.intro) <;> assumption))) hg hat)
                                have n3_ := Aside0.mk (Kd.R_after (ok := (fun k_ => some k_ ≠ (.slice Ao8 t296.length co8 : Value).ownBlock ∧ some k_ ≠ (.slice Ao9 t297.length co9 : Value).ownBlock ∧ some k_ ≠ (.slice Ao10 t298.length co10 : Value).ownBlock)) (by (with_reducible repeat (first | apply Kd.R_alloc | apply Kd.R_drewN | apply Kd.R_drew)); first | exact HO_10.out | exact Kd.R_mono HO_10.out (fun _ hk => by (obtain ⟨hk1_, hk2_⟩ := hk; (try obtain ⟨ha_, hk1_⟩ := hk1_); (try obtain ⟨hb_, hk1_⟩ := hk1_); (try obtain ⟨hc_, hk1_⟩ := hk1_); (repeat' apply And.intro) <;> assumption))) hg hat)
                                have n4_ := Aside0.mk (hb)
                                have n5_ := Aside0.mk ((show Kd.C (Kd.int .i64) w73 A69 y328.length y328 from by rw [Ny328.out, KA69.out]; exact Kd.C_drop (m := 1) (c := co67) ((Kd.R_reads' (Kd.R_after (ok := (fun k_ => some k_ ≠ (.slice Ao8 t296.length co8 : Value).ownBlock ∧ some k_ ≠ (.slice Ao9 t297.length co9 : Value).ownBlock ∧ some k_ ≠ (.slice Ao10 t298.length co10 : Value).ownBlock)) (by (with_reducible repeat (first | apply Kd.R_alloc | apply Kd.R_drewN | apply Kd.R_drew)); first | exact HO_10.out | exact Kd.R_mono HO_10.out (fun _ hk => by (obtain ⟨hk1_, hk2_⟩ := hk; (try obtain ⟨ha_, hk1_⟩ := hk1_); (try obtain ⟨hb_, hk1_⟩ := hk1_); (try obtain ⟨hc_, hk1_⟩ := hk1_); (repeat' apply And.intro) <;> assumption))) hg hat)).2.2) KL69.out ((Kd.R_reads' (Kd.R_after (ok := (fun k_ => some k_ ≠ (.slice Ao8 t296.length co8 : Value).ownBlock ∧ some k_ ≠ (.slice Ao9 t297.length co9 : Value).ownBlock ∧ some k_ ≠ (.slice Ao10 t298.length co10 : Value).ownBlock)) (by (with_reducible repeat (first | apply Kd.R_alloc | apply Kd.R_drewN | apply Kd.R_drew)); first | exact HO_10.out | exact Kd.R_mono HO_10.out (fun _ hk => by (obtain ⟨hk1_, hk2_⟩ := hk; (try obtain ⟨ha_, hk1_⟩ := hk1_); (try obtain ⟨hb_, hk1_⟩ := hk1_); (try obtain ⟨hc_, hk1_⟩ := hk1_); (repeat' apply And.intro) <;> assumption))) hg hat)).2.1)))
                                have n6_ := Aside0.mk (ho)
                                clear HO_3
                                clear HO_4
                                clear HO_5
                                clear HO_10
                                clear HB
                                clear HR331
                                clear HO327
                                have HO_3 := n0_
                                have HO_4 := n1_
                                have HO_5 := n2_
                                have HO_10 := n3_
                                have HB := n4_
                                have HR331 := n5_
                                have HO334 := n6_
                                clear n0_ n1_ n2_ n3_ n4_ n5_ n6_
                                clear ho hb hg hat
                                refine hK.out _ _ trivial (fun hHeld => ?_)
                                clear hK K
                                refine norm_ (a' := ?_) ?_ ?_
                                rotate_left
                                · show Act.put _ (some 81) _ = _
                                  simp only [Act.put, List.setIfInBounds_toArray, List.set_cons_zero, List.set_cons_succ, i64_w, i32_w]
                                  rfl
                                refine pure_ (i := 6) (N := some 14) (v := ?_) (a' := ?_) #[true, true, true, true, true, true, true] rfl rfl (by kernel_rfl) (fun _ _ _ h => h) (Or.inl ⟨by rfl, ?_⟩) ?_ ?_
                                rotate_left
                                · intro w'
                                  go_simp
                                  with_reducible rfl
                                rotate_left
                                · simp only [Act.put, List.setIfInBounds_toArray, List.set_cons_zero, List.set_cons_succ, i64_w, i32_w]
                                  rfl
                                refine done_ (by kernel_rfl) ?_
                                obtain ⟨Ao74, co74, eo74⟩ := Kd.R_slice HO334.out
                                subst eo74
                                try go_wp2_with (first | ((with_reducible refine gate_callee (f := 14) rfl ?_); refine goesL_ (some 86) rfl rfl Try.func14 (by kernel_rfl) rfl #[.slice Ao8 t296.length co8, .slice Ao9 t297.length co9, .slice Ao74 y332.length co74] rfl (by (try simp only [List.map_toArray, List.map_cons, List.map_nil]); first | done | rfl | (simp only [List.length_drop, List.length_take]; rfl)) ?_; (with_reducible refine (impl_ClimbOf.calls k2 _ _ t296 _ _ t297 _ _ y332 t335 false _ ?side1 ?side2 ?side3 ?side4 ?side5 ?side6 A28.out).mono ?_); (case side1 => repeat (first | exact (Kd.R_reads' HO_3.out).2.2 | (with_reducible refine Kd.C_alloc ?_ _) | (with_reducible refine Kd.C_drewN ?_ _) | (with_reducible refine Kd.C_drew ?_))); (case side2 => exact (Kd.R_reads' HO_3.out).2.1); (case side3 => repeat (first | exact (Kd.R_reads' HO_4.out).2.2 | (with_reducible refine Kd.C_alloc ?_ _) | (with_reducible refine Kd.C_drewN ?_ _) | (with_reducible refine Kd.C_drew ?_))); (case side4 => exact (Kd.R_reads' HO_4.out).2.1); (case side5 => repeat (first | exact (Kd.R_reads' HO334.out).2.2 | (with_reducible refine Kd.C_alloc ?_ _) | (with_reducible refine Kd.C_drewN ?_ _) | (with_reducible refine Kd.C_drew ?_))); (case side6 => exact (Kd.R_reads' HO334.out).2.1); rintro e w' ⟨rfl, ⟨nd, rfl⟩⟩; refine ⟨_, rfl, ?_⟩))
                                go_ret
                                exact ⟨by first | rfl | (simp [errW_none, errW_some] <;> rfl) | (simp [*, errW_none, errW_some] <;> rfl), by repeat (first | (with_reducible first | exact HB.out | apply below_alloc | apply pw_below_drewN | apply below_drew1) | exact HB.out)⟩
                          · rw [if_neg c30] at H
                            have c30b0 : (t320 == (wrap64 (-t305))) = false := beq_eq_false_iff_ne.mpr c30
                            have c30b1 : (t320 != (wrap64 (-t305))) = true := bne_iff_ne.mpr c30
                            obtain rfl := Option.some.inj H
                            obtain ⟨Ao75, co75, eo75⟩ := Kd.R_slice HO_10.out
                            subst eo75
                            try go_wp2_with (first | ((with_reducible refine gate_callee (f := 14) rfl ?_); refine goesL_ (some 73) rfl rfl Try.func14 (by kernel_rfl) rfl #[.slice Ao8 t296.length co8, .slice Ao9 t297.length co9, .slice Ao75 x10_2.length co75] rfl (by (try simp only [List.map_toArray, List.map_cons, List.map_nil]); first | done | rfl | (simp only [List.length_drop, List.length_take]; rfl)) ?_; (with_reducible refine (impl_ClimbOf.calls k2 _ _ t296 _ _ t297 _ _ x10_2 t320 true _ ?side1 ?side2 ?side3 ?side4 ?side5 ?side6 A24.out).mono ?_); (case side1 => repeat (first | exact (Kd.R_reads' HO_3.out).2.2 | (with_reducible refine Kd.C_alloc ?_ _) | (with_reducible refine Kd.C_drewN ?_ _) | (with_reducible refine Kd.C_drew ?_))); (case side2 => exact (Kd.R_reads' HO_3.out).2.1); (case side3 => repeat (first | exact (Kd.R_reads' HO_4.out).2.2 | (with_reducible refine Kd.C_alloc ?_ _) | (with_reducible refine Kd.C_drewN ?_ _) | (with_reducible refine Kd.C_drew ?_))); (case side4 => exact (Kd.R_reads' HO_4.out).2.1); (case side5 => repeat (first | exact (Kd.R_reads' HO_10.out).2.2 | (with_reducible refine Kd.C_alloc ?_ _) | (with_reducible refine Kd.C_drewN ?_ _) | (with_reducible refine Kd.C_drew ?_))); (case side6 => exact (Kd.R_reads' HO_10.out).2.1); rintro e w' ⟨rfl, ⟨nd, rfl⟩⟩; refine ⟨_, rfl, ?_⟩))
                            (try (rw [drewN_self wr]; generalize hq_ : World.drewN wr _ = wr; have hcq_ := fun a_ : Addr => cell_at_q hq_ a_; have hfq_ := fun a_ : Addr => frozen_at_q hq_ a_; have n0_ : Aside0 (Kd.R (Kd.int .i64) 3 wr w.heap.size (fun k_ => some k_ ≠ (.slice Ao8 t296.length co8 : Value).ownBlock ∧ some k_ ≠ (.slice Ao9 t297.length co9 : Value).ownBlock ∧ some k_ ≠ (.slice Ao10 t298.length co10 : Value).ownBlock) (.slice Ao75 x10_2.length co75) x10_2) := ⟨by rw [← hq_]; exact (by (with_reducible repeat (first | apply Kd.R_alloc | apply Kd.R_drewN | apply Kd.R_drew)); exact HO_10.out)⟩; have n1_ : Aside0 (Kd.R (Kd.int .i64) 3 wr w.heap.size (fun k_ => some k_ ≠ (.slice Ao75 x10_2.length co75 : Value).ownBlock ∧ some k_ ≠ (.slice Ao9 t297.length co9 : Value).ownBlock ∧ some k_ ≠ (.slice Ao10 t298.length co10 : Value).ownBlock) (.slice Ao8 t296.length co8) t296) := ⟨by rw [← hq_]; exact (by (with_reducible repeat (first | apply Kd.R_alloc | apply Kd.R_drewN | apply Kd.R_drew)); exact Kd.R_mono HO_3.out (fun _ hk => ⟨hk.2.2, ⟨hk.1, hk.2.1⟩⟩))⟩; have n2_ : Aside0 (Kd.R (Kd.int .i64) 3 wr w.heap.size (fun k_ => some k_ ≠ (.slice Ao75 x10_2.length co75 : Value).ownBlock ∧ some k_ ≠ (.slice Ao8 t296.length co8 : Value).ownBlock ∧ some k_ ≠ (.slice Ao10 t298.length co10 : Value).ownBlock) (.slice Ao9 t297.length co9) t297) := ⟨by rw [← hq_]; exact (by (with_reducible repeat (first | apply Kd.R_alloc | apply Kd.R_drewN | apply Kd.R_drew)); exact Kd.R_mono HO_4.out (fun _ hk => ⟨hk.2.2, ⟨hk.1, hk.2.1⟩⟩))⟩; have n3_ : Aside0 (Kd.R (Kd.int .i64) 3 wr w.heap.size (fun k_ => some k_ ≠ (.slice Ao75 x10_2.length co75 : Value).ownBlock ∧ some k_ ≠ (.slice Ao8 t296.length co8 : Value).ownBlock ∧ some k_ ≠ (.slice Ao9 t297.length co9 : Value).ownBlock) (.slice Ao10 t298.length co10) t298) := ⟨by rw [← hq_]; exact (by (with_reducible repeat (first | apply Kd.R_alloc | apply Kd.R_drewN | apply Kd.R_drew)); exact Kd.R_mono HO_5.out (fun _ hk => ⟨hk.2.2, ⟨hk.1, hk.2.1⟩⟩))⟩; have n4_ : Aside0 (Below w.heap.size w wr) := ⟨by rw [← hq_]; exact (by repeat (first | (with_reducible first | exact HB.out | apply below_alloc | apply pw_below_drewN | apply below_drew1) | exact HB.out))⟩; clear HO_10 HO_3 HO_4 HO_5 HB hq_; have HO_10 := n0_; have HO_3 := n1_; have HO_4 := n2_; have HO_5 := n3_; have HB := n4_; clear n0_ n1_ n2_ n3_ n4_))
                            have n0_ := Aside0.mk (Kd.R_drew HO_3.out)
                            have n1_ := Aside0.mk (Kd.R_drew HO_4.out)
                            have n2_ := Aside0.mk (Kd.R_drew HO_5.out)
                            have n3_ := Aside0.mk (Kd.R_drew HO_10.out)
                            have n4_ := Aside0.mk (below_drew1 HB.out)
                            clear HO_3
                            clear HO_4
                            clear HO_5
                            clear HO_10
                            clear HB
                            have HO_3 := n0_
                            have HO_4 := n1_
                            have HO_5 := n2_
                            have HO_10 := n3_
                            have HB := n4_
                            clear n0_ n1_ n2_ n3_ n4_
                            have q77 : (1 : Int) ≤ ((x10_2.length : Int) : Int) := of_decide_eq_true (by first | (with_reducible assumption) | assumption)
                            obtain ⟨i077, hi077, _, hsz77, _⟩ := info_parts info3
                            have hroom77 : x10_2.length ≤ co75 := (Kd.R_reads' HO_10.out).2.1
                            have hC77 : Kd.C (Kd.int .i64) _ Ao75 x10_2.length x10_2 := (Kd.R_reads' HO_10.out).2.2
                            have hcut77 := cut_from (P := Try.prog) 23 3 .i64 Try.underlying23 hi077 1 hsz77 Ao75 x10_2.length co75 1 (by omega) q77
                            have hr77 := Kd.C_drop (m := (1 : Int).toNat) (c := co75) hC77 (by omega) hroom77
                            obtain ⟨A77, hA77⟩ : ∃ A1, A1 = (if co75 = (1 : Int).toNat then Ao75 else (Ao75 : Option Addr).map (·.add ((1 : Int).toNat * 1))) := ⟨_, rfl⟩
                            obtain ⟨c77, hc77⟩ : ∃ c1, c1 = co75 - (1 : Int).toNat := ⟨_, rfl⟩
                            have hy77 : y328.length = x10_2.length - (1 : Int).toNat := (by rw [Ny328.out, List.length_drop] <;> omega)
                            rw [show (x10_2).drop (1 : Int).toNat = y328 from Ny328.out.symm] at hr77
                            replace hr77 : Kd.C (Kd.int .i64) _ A77 y328.length y328 := (by rw [hA77]; exact hr77)
                            rw [← hy77, ← hA77, ← hc77] at hcut77
                            have HR331 := Aside0.mk hr77
                            have HC331 := Aside0.mk (show y328.length ≤ c77 from by rw [hy77, hc77]; exact Nat.sub_le_sub_right hroom77 _)
                            clear hr77 hC77 hroom77 hi077 hsz77 hc77
                            have KY77 := Aside0.mk hy77
                            have KA77 := Aside0.mk hA77
                            clear hy77 hA77
                            have KL77 := Aside0.mk (show 1 ≤ x10_2.length from by omega)
                            replace q77 := eq_true q77
                            refine start_ (n := 7) (S := fun w' => True) (ds := []) #[false, false, false, false, false, false, false] (by kernel_rfl) rfl rfl trivial (fun hHeld => ?_)
                            generalize wr.drew = w76 at HO_3 HO_4 HO_5 HO_10 HB HR331 hHeld ⊢
                            refine pure_ (i := 1) (N := some 77) (v := ?_) (a' := ?_) #[false, true, false, false, false, false, false] rfl rfl (by kernel_rfl) (fun _ _ _ h => h) (Or.inl ⟨by rfl, ?_⟩) ?_ ?_
                            rotate_left
                            · intro w'
                              go_simp
                              with_reducible rfl
                            rotate_left
                            · simp only [Act.put, List.setIfInBounds_toArray, List.set_cons_zero, List.set_cons_succ, i64_w, i32_w]
                              rfl
                            refine pure_ (i := 3) (N := some 79) (v := ?_) (a' := ?_) #[false, true, false, true, false, false, false] rfl rfl (by kernel_rfl) (fun _ _ _ h => h) (Or.inl ⟨by rfl, ?_⟩) ?_ ?_
                            rotate_left
                            · intro w'
                              go_simp
                              with_reducible rfl
                            rotate_left
                            · simp only [Act.put, List.setIfInBounds_toArray, List.set_cons_zero, List.set_cons_succ, i64_w, i32_w]
                              rfl
                            refine pure_ (i := 4) (N := some 80) (v := ?_) (a' := ?_) #[false, true, false, true, true, false, false] rfl rfl (by kernel_rfl) (fun _ _ _ h => h) (Or.inl ⟨by rfl, ?_⟩) ?_ ?_
                            rotate_left
                            · intro w'
                              go_simp
                              with_reducible rfl
                            rotate_left
                            · simp only [Act.put, List.setIfInBounds_toArray, List.set_cons_zero, List.set_cons_succ, i64_w, i32_w]
                              rfl
                            refine one_ (i := 0) (N := some 76) #[true, true, false, true, true, false, false] rfl rfl (by kernel_rfl) (by decide) (fun K hK => ?_)
                            refine Kd.R_lit_step (Kd.int .i64) _ 3 ?hg (N := 76) ?hd (xs := ([] : List Int)) (inner := []) (ok := fun _ => True) (okp := fun _ => True) ?hr ?hp (fun _ hk => hk) trivial (Below.refl _ _) (Nat.le_refl _) (by simp) ?_; (case hd => rfl); (case hg => rfl); (case hr => first | (go_simp; done) | (go_simp; rfl)); (case hp => exact (Reps.none _ _))
                            intro v323 w78 ho79 hb hg_ hnew_
                            clear hg_ hnew_
                            (first | rw [← Ny322.out] at ho79 | (simp only [Int.reduceToNat] at ho79; rw [← Ny322.out] at ho79))
                            have n0_ := Aside0.mk (Kd.R_elder' (by (with_reducible repeat (first | apply Kd.R_alloc | apply Kd.R_drewN | apply Kd.R_drew)); exact HO_3.out) (Kd.R_base ho79) hb)
                            have n1_ := Aside0.mk (Kd.R_elder' (by (with_reducible repeat (first | apply Kd.R_alloc | apply Kd.R_drewN | apply Kd.R_drew)); exact HO_4.out) (Kd.R_base ho79) hb)
                            have n2_ := Aside0.mk (Kd.R_elder' (by (with_reducible repeat (first | apply Kd.R_alloc | apply Kd.R_drewN | apply Kd.R_drew)); exact HO_5.out) (Kd.R_base ho79) hb)
                            have n3_ := Aside0.mk (Kd.R_elder' (by (with_reducible repeat (first | apply Kd.R_alloc | apply Kd.R_drewN | apply Kd.R_drew)); exact HO_10.out) (Kd.R_base ho79) hb)
                            have n4_ := Aside0.mk (Kd.R_lower (Kd.R_new' (Kd.R_new' (Kd.R_new' (Kd.R_new' ho79 (Kd.R_lt (by (with_reducible repeat (first | apply Kd.R_alloc | apply Kd.R_drewN | apply Kd.R_drew)); exact HO_3.out))) (Kd.R_lt (by (with_reducible repeat (first | apply Kd.R_alloc | apply Kd.R_drewN | apply Kd.R_drew)); exact HO_4.out))) (Kd.R_lt (by (with_reducible repeat (first | apply Kd.R_alloc | apply Kd.R_drewN | apply Kd.R_drew)); exact HO_5.out))) (Kd.R_lt (by (with_reducible repeat (first | apply Kd.R_alloc | apply Kd.R_drewN | apply Kd.R_drew)); exact HO_10.out))) (below_size (by repeat (first | (with_reducible first | exact HB.out | apply below_alloc | apply pw_below_drewN | apply below_drew1) | exact HB.out))))
                            have n5_ := Aside0.mk (Kd.C_below (by repeat (first | (with_reducible exact HR331.out) | (with_reducible refine Kd.C_alloc ?_ _) | (with_reducible refine Kd.C_drewN ?_ _) | (with_reducible refine Kd.C_drew ?_) | exact HR331.out)) hb)
                            have n6_ := Aside0.mk (below_step (by repeat (first | (with_reducible first | exact HB.out | apply below_alloc | apply pw_below_drewN | apply below_drew1) | exact HB.out)) hb)
                            clear HO_3
                            clear HO_4
                            clear HO_5
                            clear HO_10
                            clear HR331
                            clear HB
                            have HO_3 := n0_
                            have HO_4 := n1_
                            have HO_5 := n2_
                            have HO_10 := n3_
                            have HO324 := n4_
                            have HR331 := n5_
                            have HB := n6_
                            clear n0_ n1_ n2_ n3_ n4_ n5_ n6_
                            clear hb ho79
                            refine hK.out _ _ trivial (fun hHeld => ?_)
                            clear hK K
                            refine norm_ (a' := ?_) ?_ ?_
                            rotate_left
                            · show Act.put _ (some 76) _ = _
                              simp only [Act.put, List.setIfInBounds_toArray, List.set_cons_zero, List.set_cons_succ, i64_w, i32_w]
                              rfl
                            refine one_ (i := 2) (N := some 78) #[true, true, true, true, true, false, false] rfl rfl (by kernel_rfl) (by decide) (fun K hK => ?_)
                            refine Kd.R_append_rows_step (Kd.int .i64) (w0 := w) w.heap.size (by rfl) (.tmp 76) (.tmp 77) 23 3 (.int .i64 0) 8 rfl Try.underlying23 info3 rfl (by decide) (by omega) v323 y322 t298 _ _ _ (fun k_ => some k_ ≠ (.slice Ao8 t296.length co8 : Value).ownBlock ∧ some k_ ≠ (.slice Ao9 t297.length co9 : Value).ownBlock ∧ some k_ ≠ (.slice Ao10 t298.length co10 : Value).ownBlock ∧ some k_ ≠ (.slice Ao75 x10_2.length co75 : Value).ownBlock) (fun _ => False) rfl rfl ?aO ?aR (fun _ _ h => h) (fun _ h => h.elim) ?aF ?aB ?aS ?aL ?_
                            (case aR => repeat (first | exact (Kd.R_reads' HO_5.out).2.2 | (with_reducible refine Kd.C_alloc ?_ _) | (with_reducible refine Kd.C_drewN ?_ _) | (with_reducible refine Kd.C_drew ?_)))
                            (case aB => exact (by repeat (first | (with_reducible first | exact HB.out | apply below_alloc | apply pw_below_drewN | apply below_drew1) | exact HB.out)))
                            (case aF => exact (fun k_ hk => ⟨Kd.fresh' (Kd.R_lt (by (with_reducible repeat (first | apply Kd.R_alloc | apply Kd.R_drewN | apply Kd.R_drew)); exact HO_3.out)) k_ hk, Kd.fresh' (Kd.R_lt (by (with_reducible repeat (first | apply Kd.R_alloc | apply Kd.R_drewN | apply Kd.R_drew)); exact HO_4.out)) k_ hk, Kd.fresh' (Kd.R_lt (by (with_reducible repeat (first | apply Kd.R_alloc | apply Kd.R_drewN | apply Kd.R_drew)); exact HO_5.out)) k_ hk, Kd.fresh' (Kd.R_lt (by (with_reducible repeat (first | apply Kd.R_alloc | apply Kd.R_drewN | apply Kd.R_drew)); exact HO_10.out)) k_ hk⟩))
                            (case aO => exact (by (with_reducible repeat (first | apply Kd.R_alloc | apply Kd.R_drewN | apply Kd.R_drew)); exact Kd.R_mono HO324.out (fun _ hk => ⟨hk.1.1.1.2, ⟨hk.1.1.2, ⟨hk.1.2, hk.2⟩⟩⟩)))
                            (case aS => exact (below_size (by repeat (first | (with_reducible first | exact HB.out | apply below_alloc | apply pw_below_drewN | apply below_drew1) | exact HB.out))))
                            (case aL => have := LMc25.out; omega)
                            intro v326 w80 ho hb hg hat
                            rw [← Ny325.out] at ho
                            have n0_ := Aside0.mk (Kd.R_after (ok := (fun k_ => some k_ ≠ (.slice Ao9 t297.length co9 : Value).ownBlock ∧ some k_ ≠ (.slice Ao10 t298.length co10 : Value).ownBlock ∧ some k_ ≠ (.slice Ao75 x10_2.length co75 : Value).ownBlock)) (by (with_reducible repeat (first | apply Kd.R_alloc | apply Kd.R_drewN | apply Kd.R_drew)); first | exact HO_3.out | exact Kd.R_mono HO_3.out (fun _ hk => by (obtain ⟨hk1_, hk2_⟩ := hk; (try obtain ⟨ha_, hk1_⟩ := hk1_); (try obtain ⟨hb_, hk1_⟩ := hk1_); (try obtain ⟨hc_, hk1_⟩ := hk1_); (repeat' apply And.intro) <;> assumption))) hg hat)
                            have n1_ := Aside0.mk (Kd.R_after (ok := (fun k_ => some k_ ≠ (.slice Ao8 t296.length co8 : Value).ownBlock ∧ some k_ ≠ (.slice Ao10 t298.length co10 : Value).ownBlock ∧ some k_ ≠ (.slice Ao75 x10_2.length co75 : Value).ownBlock)) (by (with_reducible repeat (first | apply Kd.R_alloc | apply Kd.R_drewN | apply Kd.R_drew)); first | exact HO_4.out | exact Kd.R_mono HO_4.out (fun _ hk => by (obtain ⟨hk1_, hk2_⟩ := hk; (try obtain ⟨ha_, hk1_⟩ := hk1_); (try obtain ⟨hb_, hk1_⟩ := hk1_); (try obtain ⟨hc_, hk1_⟩ := hk1_); (repeat' apply And.intro) <;> assumption))) hg hat)
                            have n2_ := Aside0.mk (Kd.R_after (ok := (fun k_ => some k_ ≠ (.slice Ao8 t296.length co8 : Value).ownBlock ∧ some k_ ≠ (.slice Ao9 t297.length co9 : Value).ownBlock ∧ some k_ ≠ (.slice Ao75 x10_2.length co75 : Value).ownBlock)) (by (with_reducible repeat (first | apply Kd.R_alloc | apply Kd.R_drewN | apply Kd.R_drew)); first | exact HO_5.out | exact Kd.R_mono HO_5.out (fun _ hk => by (obtain ⟨hk1_, hk2_⟩ := hk; (try obtain ⟨ha_, hk1_⟩ := hk1_); (try obtain ⟨hb_, hk1_⟩ := hk1_); (try obtain ⟨hc_, hk1_⟩ := hk1_); (repeat' apply And.intro) <;> assumption))) hg hat)
                            have n3_ := Aside0.mk (Kd.R_after (ok := (fun k_ => some k_ ≠ (.slice Ao8 t296.length co8 : Value).ownBlock ∧ some k_ ≠ (.slice Ao9 t297.length co9 : Value).ownBlock ∧ some k_ ≠ (.slice Ao10 t298.length co10 : Value).ownBlock)) (by (with_reducible repeat (first | apply Kd.R_alloc | apply Kd.R_drewN | apply Kd.R_drew)); first | exact HO_10.out | exact Kd.R_mono HO_10.out (fun _ hk => by (obtain ⟨hk1_, hk2_⟩ := hk; (try obtain ⟨ha_, hk1_⟩ := hk1_); (try obtain ⟨hb_, hk1_⟩ := hk1_); (try obtain ⟨hc_, hk1_⟩ := hk1_); (repeat' apply And.intro) <;> assumption))) hg hat)
                            have n4_ := Aside0.mk (hb)
                            have n5_ := Aside0.mk ((show Kd.C (Kd.int .i64) w80 A77 y328.length y328 from by rw [Ny328.out, KA77.out]; exact Kd.C_drop (m := 1) (c := co75) ((Kd.R_reads' (Kd.R_after (ok := (fun k_ => some k_ ≠ (.slice Ao8 t296.length co8 : Value).ownBlock ∧ some k_ ≠ (.slice Ao9 t297.length co9 : Value).ownBlock ∧ some k_ ≠ (.slice Ao10 t298.length co10 : Value).ownBlock)) (by (with_reducible repeat (first | apply Kd.R_alloc | apply Kd.R_drewN | apply Kd.R_drew)); first | exact HO_10.out | exact Kd.R_mono HO_10.out (fun _ hk => by (obtain ⟨hk1_, hk2_⟩ := hk; (try obtain ⟨ha_, hk1_⟩ := hk1_); (try obtain ⟨hb_, hk1_⟩ := hk1_); (try obtain ⟨hc_, hk1_⟩ := hk1_); (repeat' apply And.intro) <;> assumption))) hg hat)).2.2) KL77.out ((Kd.R_reads' (Kd.R_after (ok := (fun k_ => some k_ ≠ (.slice Ao8 t296.length co8 : Value).ownBlock ∧ some k_ ≠ (.slice Ao9 t297.length co9 : Value).ownBlock ∧ some k_ ≠ (.slice Ao10 t298.length co10 : Value).ownBlock)) (by (with_reducible repeat (first | apply Kd.R_alloc | apply Kd.R_drewN | apply Kd.R_drew)); first | exact HO_10.out | exact Kd.R_mono HO_10.out (fun _ hk => by (obtain ⟨hk1_, hk2_⟩ := hk; (try obtain ⟨ha_, hk1_⟩ := hk1_); (try obtain ⟨hb_, hk1_⟩ := hk1_); (try obtain ⟨hc_, hk1_⟩ := hk1_); (repeat' apply And.intro) <;> assumption))) hg hat)).2.1)))
                            have n6_ := Aside0.mk (ho)
                            clear HO_3
                            clear HO_4
                            clear HO_5
                            clear HO_10
                            clear HB
                            clear HR331
                            clear HO324
                            have HO_3 := n0_
                            have HO_4 := n1_
                            have HO_5 := n2_
                            have HO_10 := n3_
                            have HB := n4_
                            have HR331 := n5_
                            have HO327 := n6_
                            clear n0_ n1_ n2_ n3_ n4_ n5_ n6_
                            clear ho hb hg hat
                            refine hK.out _ _ trivial (fun hHeld => ?_)
                            clear hK K
                            refine norm_ (a' := ?_) ?_ ?_
                            rotate_left
                            · show Act.put _ (some 78) _ = _
                              simp only [Act.put, List.setIfInBounds_toArray, List.set_cons_zero, List.set_cons_succ, i64_w, i32_w]
                              rfl
                            refine one_ (i := 5) (N := some 81) #[true, true, true, true, true, true, false] rfl rfl (by kernel_rfl) (by decide) (fun K hK => ?_)
                            refine Kd.R_append_rows_step (Kd.int .i64) (w0 := w) w.heap.size (by rfl) (.tmp 78) (.tmp 80) 23 3 (.int .i64 0) 8 rfl Try.underlying23 info3 rfl (by decide) (by omega) v326 y325 y328 _ _ _ (fun k_ => some k_ ≠ (.slice Ao8 t296.length co8 : Value).ownBlock ∧ some k_ ≠ (.slice Ao9 t297.length co9 : Value).ownBlock ∧ some k_ ≠ (.slice Ao10 t298.length co10 : Value).ownBlock ∧ some k_ ≠ (.slice Ao75 x10_2.length co75 : Value).ownBlock) (fun _ => False) rfl rfl ?aO ?aR (fun _ _ h => h) (fun _ h => h.elim) ?aF ?aB ?aS ?aL ?_
                            (case aR => repeat (first | exact (by repeat (first | (with_reducible exact HR331.out) | (with_reducible refine Kd.C_alloc ?_ _) | (with_reducible refine Kd.C_drewN ?_ _) | (with_reducible refine Kd.C_drew ?_) | exact HR331.out)) | (with_reducible refine Kd.C_alloc ?_ _) | (with_reducible refine Kd.C_drewN ?_ _) | (with_reducible refine Kd.C_drew ?_)))
                            (case aB => exact (by repeat (first | (with_reducible first | exact HB.out | apply below_alloc | apply pw_below_drewN | apply below_drew1) | exact HB.out)))
                            (case aF => exact (fun k_ hk => ⟨Kd.fresh' (Kd.R_lt (by (with_reducible repeat (first | apply Kd.R_alloc | apply Kd.R_drewN | apply Kd.R_drew)); exact HO_3.out)) k_ hk, Kd.fresh' (Kd.R_lt (by (with_reducible repeat (first | apply Kd.R_alloc | apply Kd.R_drewN | apply Kd.R_drew)); exact HO_4.out)) k_ hk, Kd.fresh' (Kd.R_lt (by (with_reducible repeat (first | apply Kd.R_alloc | apply Kd.R_drewN | apply Kd.R_drew)); exact HO_5.out)) k_ hk, Kd.fresh' (Kd.R_lt (by (with_reducible repeat (first | apply Kd.R_alloc | apply Kd.R_drewN | apply Kd.R_drew)); exact HO_10.out)) k_ hk⟩))
                            (case aO => exact (by (with_reducible repeat (first | apply Kd.R_alloc | apply Kd.R_drewN | apply Kd.R_drew)); exact HO327.out))
                            (case aS => exact (below_size (by repeat (first | (with_reducible first | exact HB.out | apply below_alloc | apply pw_below_drewN | apply below_drew1) | exact HB.out))))
                            (case aL => have := LMc27.out; omega)
                            intro v333 w81 ho hb hg hat
                            rw [← Ny332.out] at ho
                            have n0_ := Aside0.mk (Kd.R_after (ok := (fun k_ => some k_ ≠ (.slice Ao9 t297.length co9 : Value).ownBlock ∧ some k_ ≠ (.slice Ao10 t298.length co10 : Value).ownBlock ∧ some k_ ≠ (.slice Ao75 x10_2.length co75 : Value).ownBlock)) (by (with_reducible repeat (first | apply Kd.R_alloc | apply Kd.R_drewN | apply Kd.R_drew)); first | exact HO_3.out | exact Kd.R_mono HO_3.out (fun _ hk => by (obtain ⟨hk1_, hk2_⟩ := hk; (try obtain ⟨ha_, hk1_⟩ := hk1_); (try obtain ⟨hb_, hk1_⟩ := hk1_); (try obtain ⟨hc_, hk1_⟩ := hk1_); (repeat' apply And.intro) <;> assumption))) hg hat)
                            have n1_ := Aside0.mk (Kd.R_after (ok := (fun k_ => some k_ ≠ (.slice Ao8 t296.length co8 : Value).ownBlock ∧ some k_ ≠ (.slice Ao10 t298.length co10 : Value).ownBlock ∧ some k_ ≠ (.slice Ao75 x10_2.length co75 : Value).ownBlock)) (by (with_reducible repeat (first | apply Kd.R_alloc | apply Kd.R_drewN | apply Kd.R_drew)); first | exact HO_4.out | exact Kd.R_mono HO_4.out (fun _ hk => by (obtain ⟨hk1_, hk2_⟩ := hk; (try obtain ⟨ha_, hk1_⟩ := hk1_); (try obtain ⟨hb_, hk1_⟩ := hk1_); (try obtain ⟨hc_, hk1_⟩ := hk1_); (repeat' apply And.intro) <;> assumption))) hg hat)
                            have n2_ := Aside0.mk (Kd.R_after (ok := (fun k_ => some k_ ≠ (.slice Ao8 t296.length co8 : Value).ownBlock ∧ some k_ ≠ (.slice Ao9 t297.length co9 : Value).ownBlock ∧ some k_ ≠ (.slice Ao75 x10_2.length co75 : Value).ownBlock)) (by (with_reducible repeat (first | apply Kd.R_alloc | apply Kd.R_drewN | apply Kd.R_drew)); first | exact HO_5.out | exact Kd.R_mono HO_5.out (fun _ hk => by (obtain ⟨hk1_, hk2_⟩ := hk; (try obtain ⟨ha_, hk1_⟩ := hk1_); (try obtain ⟨hb_, hk1_⟩ := hk1_); (try obtain ⟨hc_, hk1_⟩ := hk1_); (repeat' apply And.intro) <;> assumption))) hg hat)
                            have n3_ := Aside0.mk (Kd.R_after (ok := (fun k_ => some k_ ≠ (.slice Ao8 t296.length co8 : Value).ownBlock ∧ some k_ ≠ (.slice Ao9 t297.length co9 : Value).ownBlock ∧ some k_ ≠ (.slice Ao10 t298.length co10 : Value).ownBlock)) (by (with_reducible repeat (first | apply Kd.R_alloc | apply Kd.R_drewN | apply Kd.R_drew)); first | exact HO_10.out | exact Kd.R_mono HO_10.out (fun _ hk => by (obtain ⟨hk1_, hk2_⟩ := hk; (try obtain ⟨ha_, hk1_⟩ := hk1_); (try obtain ⟨hb_, hk1_⟩ := hk1_); (try obtain ⟨hc_, hk1_⟩ := hk1_); (repeat' apply And.intro) <;> assumption))) hg hat)
                            have n4_ := Aside0.mk (hb)
                            have n5_ := Aside0.mk ((show Kd.C (Kd.int .i64) w81 A77 y328.length y328 from by rw [Ny328.out, KA77.out]; exact Kd.C_drop (m := 1) (c := co75) ((Kd.R_reads' (Kd.R_after (ok := (fun k_ => some k_ ≠ (.slice Ao8 t296.length co8 : Value).ownBlock ∧ some k_ ≠ (.slice Ao9 t297.length co9 : Value).ownBlock ∧ some k_ ≠ (.slice Ao10 t298.length co10 : Value).ownBlock)) (by (with_reducible repeat (first | apply Kd.R_alloc | apply Kd.R_drewN | apply Kd.R_drew)); first | exact HO_10.out | exact Kd.R_mono HO_10.out (fun _ hk => by (obtain ⟨hk1_, hk2_⟩ := hk; (try obtain ⟨ha_, hk1_⟩ := hk1_); (try obtain ⟨hb_, hk1_⟩ := hk1_); (try obtain ⟨hc_, hk1_⟩ := hk1_); (repeat' apply And.intro) <;> assumption))) hg hat)).2.2) KL77.out ((Kd.R_reads' (Kd.R_after (ok := (fun k_ => some k_ ≠ (.slice Ao8 t296.length co8 : Value).ownBlock ∧ some k_ ≠ (.slice Ao9 t297.length co9 : Value).ownBlock ∧ some k_ ≠ (.slice Ao10 t298.length co10 : Value).ownBlock)) (by (with_reducible repeat (first | apply Kd.R_alloc | apply Kd.R_drewN | apply Kd.R_drew)); first | exact HO_10.out | exact Kd.R_mono HO_10.out (fun _ hk => by (obtain ⟨hk1_, hk2_⟩ := hk; (try obtain ⟨ha_, hk1_⟩ := hk1_); (try obtain ⟨hb_, hk1_⟩ := hk1_); (try obtain ⟨hc_, hk1_⟩ := hk1_); (repeat' apply And.intro) <;> assumption))) hg hat)).2.1)))
                            have n6_ := Aside0.mk (ho)
                            clear HO_3
                            clear HO_4
                            clear HO_5
                            clear HO_10
                            clear HB
                            clear HR331
                            clear HO327
                            have HO_3 := n0_
                            have HO_4 := n1_
                            have HO_5 := n2_
                            have HO_10 := n3_
                            have HB := n4_
                            have HR331 := n5_
                            have HO334 := n6_
                            clear n0_ n1_ n2_ n3_ n4_ n5_ n6_
                            clear ho hb hg hat
                            refine hK.out _ _ trivial (fun hHeld => ?_)
                            clear hK K
                            refine norm_ (a' := ?_) ?_ ?_
                            rotate_left
                            · show Act.put _ (some 81) _ = _
                              simp only [Act.put, List.setIfInBounds_toArray, List.set_cons_zero, List.set_cons_succ, i64_w, i32_w]
                              rfl
                            refine pure_ (i := 6) (N := some 14) (v := ?_) (a' := ?_) #[true, true, true, true, true, true, true] rfl rfl (by kernel_rfl) (fun _ _ _ h => h) (Or.inl ⟨by rfl, ?_⟩) ?_ ?_
                            rotate_left
                            · intro w'
                              go_simp
                              with_reducible rfl
                            rotate_left
                            · simp only [Act.put, List.setIfInBounds_toArray, List.set_cons_zero, List.set_cons_succ, i64_w, i32_w]
                              rfl
                            refine done_ (by kernel_rfl) ?_
                            obtain ⟨Ao82, co82, eo82⟩ := Kd.R_slice HO334.out
                            subst eo82
                            try go_wp2_with (first | ((with_reducible refine gate_callee (f := 14) rfl ?_); refine goesL_ (some 86) rfl rfl Try.func14 (by kernel_rfl) rfl #[.slice Ao8 t296.length co8, .slice Ao9 t297.length co9, .slice Ao82 y332.length co82] rfl (by (try simp only [List.map_toArray, List.map_cons, List.map_nil]); first | done | rfl | (simp only [List.length_drop, List.length_take]; rfl)) ?_; (with_reducible refine (impl_ClimbOf.calls k2 _ _ t296 _ _ t297 _ _ y332 t335 t336 _ ?side1 ?side2 ?side3 ?side4 ?side5 ?side6 A28.out).mono ?_); (case side1 => repeat (first | exact (Kd.R_reads' HO_3.out).2.2 | (with_reducible refine Kd.C_alloc ?_ _) | (with_reducible refine Kd.C_drewN ?_ _) | (with_reducible refine Kd.C_drew ?_))); (case side2 => exact (Kd.R_reads' HO_3.out).2.1); (case side3 => repeat (first | exact (Kd.R_reads' HO_4.out).2.2 | (with_reducible refine Kd.C_alloc ?_ _) | (with_reducible refine Kd.C_drewN ?_ _) | (with_reducible refine Kd.C_drew ?_))); (case side4 => exact (Kd.R_reads' HO_4.out).2.1); (case side5 => repeat (first | exact (Kd.R_reads' HO334.out).2.2 | (with_reducible refine Kd.C_alloc ?_ _) | (with_reducible refine Kd.C_drewN ?_ _) | (with_reducible refine Kd.C_drew ?_))); (case side6 => exact (Kd.R_reads' HO334.out).2.1); rintro e w' ⟨rfl, ⟨nd, rfl⟩⟩; refine ⟨_, rfl, ?_⟩))
                            go_ret
                            exact ⟨by first | rfl | (simp [errW_none, errW_some] <;> rfl) | (simp [*, errW_none, errW_some] <;> rfl), by repeat (first | (with_reducible first | exact HB.out | apply below_alloc | apply pw_below_drewN | apply below_drew1) | exact HB.out)⟩
                        · replace c29 := Bool.eq_false_iff.mpr c29
                          subst c29
                          have H1 : (some false) = some r := by rw [if_neg (show ¬ (false = true) by decide)] at H; exact H
                          clear H
                          have H := H1
                          clear H1
                          obtain rfl := Option.some.inj H
                          obtain ⟨Ao83, co83, eo83⟩ := Kd.R_slice HO_10.out
                          subst eo83
                          try go_wp2_with (first | ((with_reducible refine gate_callee (f := 14) rfl ?_); refine goesL_ (some 73) rfl rfl Try.func14 (by kernel_rfl) rfl #[.slice Ao8 t296.length co8, .slice Ao9 t297.length co9, .slice Ao83 x10_2.length co83] rfl (by (try simp only [List.map_toArray, List.map_cons, List.map_nil]); first | done | rfl | (simp only [List.length_drop, List.length_take]; rfl)) ?_; (with_reducible refine (impl_ClimbOf.calls k2 _ _ t296 _ _ t297 _ _ x10_2 t320 false _ ?side1 ?side2 ?side3 ?side4 ?side5 ?side6 A24.out).mono ?_); (case side1 => repeat (first | exact (Kd.R_reads' HO_3.out).2.2 | (with_reducible refine Kd.C_alloc ?_ _) | (with_reducible refine Kd.C_drewN ?_ _) | (with_reducible refine Kd.C_drew ?_))); (case side2 => exact (Kd.R_reads' HO_3.out).2.1); (case side3 => repeat (first | exact (Kd.R_reads' HO_4.out).2.2 | (with_reducible refine Kd.C_alloc ?_ _) | (with_reducible refine Kd.C_drewN ?_ _) | (with_reducible refine Kd.C_drew ?_))); (case side4 => exact (Kd.R_reads' HO_4.out).2.1); (case side5 => repeat (first | exact (Kd.R_reads' HO_10.out).2.2 | (with_reducible refine Kd.C_alloc ?_ _) | (with_reducible refine Kd.C_drewN ?_ _) | (with_reducible refine Kd.C_drew ?_))); (case side6 => exact (Kd.R_reads' HO_10.out).2.1); rintro e w' ⟨rfl, ⟨nd, rfl⟩⟩; refine ⟨_, rfl, ?_⟩))
                          (try (rw [drewN_self wr]; generalize hq_ : World.drewN wr _ = wr; have hcq_ := fun a_ : Addr => cell_at_q hq_ a_; have hfq_ := fun a_ : Addr => frozen_at_q hq_ a_; have n0_ : Aside0 (Kd.R (Kd.int .i64) 3 wr w.heap.size (fun k_ => some k_ ≠ (.slice Ao8 t296.length co8 : Value).ownBlock ∧ some k_ ≠ (.slice Ao9 t297.length co9 : Value).ownBlock ∧ some k_ ≠ (.slice Ao10 t298.length co10 : Value).ownBlock) (.slice Ao83 x10_2.length co83) x10_2) := ⟨by rw [← hq_]; exact (by (with_reducible repeat (first | apply Kd.R_alloc | apply Kd.R_drewN | apply Kd.R_drew)); exact HO_10.out)⟩; have n1_ : Aside0 (Kd.R (Kd.int .i64) 3 wr w.heap.size (fun k_ => some k_ ≠ (.slice Ao83 x10_2.length co83 : Value).ownBlock ∧ some k_ ≠ (.slice Ao9 t297.length co9 : Value).ownBlock ∧ some k_ ≠ (.slice Ao10 t298.length co10 : Value).ownBlock) (.slice Ao8 t296.length co8) t296) := ⟨by rw [← hq_]; exact (by (with_reducible repeat (first | apply Kd.R_alloc | apply Kd.R_drewN | apply Kd.R_drew)); exact Kd.R_mono HO_3.out (fun _ hk => ⟨hk.2.2, ⟨hk.1, hk.2.1⟩⟩))⟩; have n2_ : Aside0 (Kd.R (Kd.int .i64) 3 wr w.heap.size (fun k_ => some k_ ≠ (.slice Ao83 x10_2.length co83 : Value).ownBlock ∧ some k_ ≠ (.slice Ao8 t296.length co8 : Value).ownBlock ∧ some k_ ≠ (.slice Ao10 t298.length co10 : Value).ownBlock) (.slice Ao9 t297.length co9) t297) := ⟨by rw [← hq_]; exact (by (with_reducible repeat (first | apply Kd.R_alloc | apply Kd.R_drewN | apply Kd.R_drew)); exact Kd.R_mono HO_4.out (fun _ hk => ⟨hk.2.2, ⟨hk.1, hk.2.1⟩⟩))⟩; have n3_ : Aside0 (Kd.R (Kd.int .i64) 3 wr w.heap.size (fun k_ => some k_ ≠ (.slice Ao83 x10_2.length co83 : Value).ownBlock ∧ some k_ ≠ (.slice Ao8 t296.length co8 : Value).ownBlock ∧ some k_ ≠ (.slice Ao9 t297.length co9 : Value).ownBlock) (.slice Ao10 t298.length co10) t298) := ⟨by rw [← hq_]; exact (by (with_reducible repeat (first | apply Kd.R_alloc | apply Kd.R_drewN | apply Kd.R_drew)); exact Kd.R_mono HO_5.out (fun _ hk => ⟨hk.2.2, ⟨hk.1, hk.2.1⟩⟩))⟩; have n4_ : Aside0 (Below w.heap.size w wr) := ⟨by rw [← hq_]; exact (by repeat (first | (with_reducible first | exact HB.out | apply below_alloc | apply pw_below_drewN | apply below_drew1) | exact HB.out))⟩; clear HO_10 HO_3 HO_4 HO_5 HB hq_; have HO_10 := n0_; have HO_3 := n1_; have HO_4 := n2_; have HO_5 := n3_; have HB := n4_; clear n0_ n1_ n2_ n3_ n4_))
                          have n0_ := Aside0.mk (Kd.R_drew HO_3.out)
                          have n1_ := Aside0.mk (Kd.R_drew HO_4.out)
                          have n2_ := Aside0.mk (Kd.R_drew HO_5.out)
                          have n3_ := Aside0.mk (Kd.R_drew HO_10.out)
                          have n4_ := Aside0.mk (below_drew1 HB.out)
                          clear HO_3
                          clear HO_4
                          clear HO_5
                          clear HO_10
                          clear HB
                          have HO_3 := n0_
                          have HO_4 := n1_
                          have HO_5 := n2_
                          have HO_10 := n3_
                          have HB := n4_
                          clear n0_ n1_ n2_ n3_ n4_
                          have q85 : (1 : Int) ≤ ((x10_2.length : Int) : Int) := of_decide_eq_true (by first | (with_reducible assumption) | assumption)
                          obtain ⟨i085, hi085, _, hsz85, _⟩ := info_parts info3
                          have hroom85 : x10_2.length ≤ co83 := (Kd.R_reads' HO_10.out).2.1
                          have hC85 : Kd.C (Kd.int .i64) _ Ao83 x10_2.length x10_2 := (Kd.R_reads' HO_10.out).2.2
                          have hcut85 := cut_from (P := Try.prog) 23 3 .i64 Try.underlying23 hi085 1 hsz85 Ao83 x10_2.length co83 1 (by omega) q85
                          have hr85 := Kd.C_drop (m := (1 : Int).toNat) (c := co83) hC85 (by omega) hroom85
                          obtain ⟨A85, hA85⟩ : ∃ A1, A1 = (if co83 = (1 : Int).toNat then Ao83 else (Ao83 : Option Addr).map (·.add ((1 : Int).toNat * 1))) := ⟨_, rfl⟩
                          obtain ⟨c85, hc85⟩ : ∃ c1, c1 = co83 - (1 : Int).toNat := ⟨_, rfl⟩
                          have hy85 : y328.length = x10_2.length - (1 : Int).toNat := (by rw [Ny328.out, List.length_drop] <;> omega)
                          rw [show (x10_2).drop (1 : Int).toNat = y328 from Ny328.out.symm] at hr85
                          replace hr85 : Kd.C (Kd.int .i64) _ A85 y328.length y328 := (by rw [hA85]; exact hr85)
                          rw [← hy85, ← hA85, ← hc85] at hcut85
                          have HR331 := Aside0.mk hr85
                          have HC331 := Aside0.mk (show y328.length ≤ c85 from by rw [hy85, hc85]; exact Nat.sub_le_sub_right hroom85 _)
                          clear hr85 hC85 hroom85 hi085 hsz85 hc85
                          have KY85 := Aside0.mk hy85
                          have KA85 := Aside0.mk hA85
                          clear hy85 hA85
                          have KL85 := Aside0.mk (show 1 ≤ x10_2.length from by omega)
                          replace q85 := eq_true q85
                          refine start_ (n := 7) (S := fun w' => True) (ds := []) #[false, false, false, false, false, false, false] (by kernel_rfl) rfl rfl trivial (fun hHeld => ?_)
                          generalize wr.drew = w84 at HO_3 HO_4 HO_5 HO_10 HB HR331 hHeld ⊢
                          refine pure_ (i := 1) (N := some 77) (v := ?_) (a' := ?_) #[false, true, false, false, false, false, false] rfl rfl (by kernel_rfl) (fun _ _ _ h => h) (Or.inl ⟨by rfl, ?_⟩) ?_ ?_
                          rotate_left
                          · intro w'
                            go_simp
                            with_reducible rfl
                          rotate_left
                          · simp only [Act.put, List.setIfInBounds_toArray, List.set_cons_zero, List.set_cons_succ, i64_w, i32_w]
                            rfl
                          refine pure_ (i := 3) (N := some 79) (v := ?_) (a' := ?_) #[false, true, false, true, false, false, false] rfl rfl (by kernel_rfl) (fun _ _ _ h => h) (Or.inl ⟨by rfl, ?_⟩) ?_ ?_
                          rotate_left
                          · intro w'
                            go_simp
                            with_reducible rfl
                          rotate_left
                          · simp only [Act.put, List.setIfInBounds_toArray, List.set_cons_zero, List.set_cons_succ, i64_w, i32_w]
                            rfl
                          refine pure_ (i := 4) (N := some 80) (v := ?_) (a' := ?_) #[false, true, false, true, true, false, false] rfl rfl (by kernel_rfl) (fun _ _ _ h => h) (Or.inl ⟨by rfl, ?_⟩) ?_ ?_
                          rotate_left
                          · intro w'
                            go_simp
                            with_reducible rfl
                          rotate_left
                          · simp only [Act.put, List.setIfInBounds_toArray, List.set_cons_zero, List.set_cons_succ, i64_w, i32_w]
                            rfl
                          refine one_ (i := 0) (N := some 76) #[true, true, false, true, true, false, false] rfl rfl (by kernel_rfl) (by decide) (fun K hK => ?_)
                          refine Kd.R_lit_step (Kd.int .i64) _ 3 ?hg (N := 76) ?hd (xs := ([] : List Int)) (inner := []) (ok := fun _ => True) (okp := fun _ => True) ?hr ?hp (fun _ hk => hk) trivial (Below.refl _ _) (Nat.le_refl _) (by simp) ?_; (case hd => rfl); (case hg => rfl); (case hr => first | (go_simp; done) | (go_simp; rfl)); (case hp => exact (Reps.none _ _))
                          intro v323 w86 ho87 hb hg_ hnew_
                          clear hg_ hnew_
                          (first | rw [← Ny322.out] at ho87 | (simp only [Int.reduceToNat] at ho87; rw [← Ny322.out] at ho87))
                          have n0_ := Aside0.mk (Kd.R_elder' (by (with_reducible repeat (first | apply Kd.R_alloc | apply Kd.R_drewN | apply Kd.R_drew)); exact HO_3.out) (Kd.R_base ho87) hb)
                          have n1_ := Aside0.mk (Kd.R_elder' (by (with_reducible repeat (first | apply Kd.R_alloc | apply Kd.R_drewN | apply Kd.R_drew)); exact HO_4.out) (Kd.R_base ho87) hb)
                          have n2_ := Aside0.mk (Kd.R_elder' (by (with_reducible repeat (first | apply Kd.R_alloc | apply Kd.R_drewN | apply Kd.R_drew)); exact HO_5.out) (Kd.R_base ho87) hb)
                          have n3_ := Aside0.mk (Kd.R_elder' (by (with_reducible repeat (first | apply Kd.R_alloc | apply Kd.R_drewN | apply Kd.R_drew)); exact HO_10.out) (Kd.R_base ho87) hb)
                          have n4_ := Aside0.mk (Kd.R_lower (Kd.R_new' (Kd.R_new' (Kd.R_new' (Kd.R_new' ho87 (Kd.R_lt (by (with_reducible repeat (first | apply Kd.R_alloc | apply Kd.R_drewN | apply Kd.R_drew)); exact HO_3.out))) (Kd.R_lt (by (with_reducible repeat (first | apply Kd.R_alloc | apply Kd.R_drewN | apply Kd.R_drew)); exact HO_4.out))) (Kd.R_lt (by (with_reducible repeat (first | apply Kd.R_alloc | apply Kd.R_drewN | apply Kd.R_drew)); exact HO_5.out))) (Kd.R_lt (by (with_reducible repeat (first | apply Kd.R_alloc | apply Kd.R_drewN | apply Kd.R_drew)); exact HO_10.out))) (below_size (by repeat (first | (with_reducible first | exact HB.out | apply below_alloc | apply pw_below_drewN | apply below_drew1) | exact HB.out))))
                          have n5_ := Aside0.mk (Kd.C_below (by repeat (first | (with_reducible exact HR331.out) | (with_reducible refine Kd.C_alloc ?_ _) | (with_reducible refine Kd.C_drewN ?_ _) | (with_reducible refine Kd.C_drew ?_) | exact HR331.out)) hb)
                          have n6_ := Aside0.mk (below_step (by repeat (first | (with_reducible first | exact HB.out | apply below_alloc | apply pw_below_drewN | apply below_drew1) | exact HB.out)) hb)
                          clear HO_3
                          clear HO_4
                          clear HO_5
                          clear HO_10
                          clear HR331
                          clear HB
                          have HO_3 := n0_
                          have HO_4 := n1_
                          have HO_5 := n2_
                          have HO_10 := n3_
                          have HO324 := n4_
                          have HR331 := n5_
                          have HB := n6_
                          clear n0_ n1_ n2_ n3_ n4_ n5_ n6_
                          clear hb ho87
                          refine hK.out _ _ trivial (fun hHeld => ?_)
                          clear hK K
                          refine norm_ (a' := ?_) ?_ ?_
                          rotate_left
                          · show Act.put _ (some 76) _ = _
                            simp only [Act.put, List.setIfInBounds_toArray, List.set_cons_zero, List.set_cons_succ, i64_w, i32_w]
                            rfl
                          refine one_ (i := 2) (N := some 78) #[true, true, true, true, true, false, false] rfl rfl (by kernel_rfl) (by decide) (fun K hK => ?_)
                          refine Kd.R_append_rows_step (Kd.int .i64) (w0 := w) w.heap.size (by rfl) (.tmp 76) (.tmp 77) 23 3 (.int .i64 0) 8 rfl Try.underlying23 info3 rfl (by decide) (by omega) v323 y322 t298 _ _ _ (fun k_ => some k_ ≠ (.slice Ao8 t296.length co8 : Value).ownBlock ∧ some k_ ≠ (.slice Ao9 t297.length co9 : Value).ownBlock ∧ some k_ ≠ (.slice Ao10 t298.length co10 : Value).ownBlock ∧ some k_ ≠ (.slice Ao83 x10_2.length co83 : Value).ownBlock) (fun _ => False) rfl rfl ?aO ?aR (fun _ _ h => h) (fun _ h => h.elim) ?aF ?aB ?aS ?aL ?_
                          (case aR => repeat (first | exact (Kd.R_reads' HO_5.out).2.2 | (with_reducible refine Kd.C_alloc ?_ _) | (with_reducible refine Kd.C_drewN ?_ _) | (with_reducible refine Kd.C_drew ?_)))
                          (case aB => exact (by repeat (first | (with_reducible first | exact HB.out | apply below_alloc | apply pw_below_drewN | apply below_drew1) | exact HB.out)))
                          (case aF => exact (fun k_ hk => ⟨Kd.fresh' (Kd.R_lt (by (with_reducible repeat (first | apply Kd.R_alloc | apply Kd.R_drewN | apply Kd.R_drew)); exact HO_3.out)) k_ hk, Kd.fresh' (Kd.R_lt (by (with_reducible repeat (first | apply Kd.R_alloc | apply Kd.R_drewN | apply Kd.R_drew)); exact HO_4.out)) k_ hk, Kd.fresh' (Kd.R_lt (by (with_reducible repeat (first | apply Kd.R_alloc | apply Kd.R_drewN | apply Kd.R_drew)); exact HO_5.out)) k_ hk, Kd.fresh' (Kd.R_lt (by (with_reducible repeat (first | apply Kd.R_alloc | apply Kd.R_drewN | apply Kd.R_drew)); exact HO_10.out)) k_ hk⟩))
                          (case aO => exact (by (with_reducible repeat (first | apply Kd.R_alloc | apply Kd.R_drewN | apply Kd.R_drew)); exact Kd.R_mono HO324.out (fun _ hk => ⟨hk.1.1.1.2, ⟨hk.1.1.2, ⟨hk.1.2, hk.2⟩⟩⟩)))
                          (case aS => exact (below_size (by repeat (first | (with_reducible first | exact HB.out | apply below_alloc | apply pw_below_drewN | apply below_drew1) | exact HB.out))))
                          (case aL => have := LMc25.out; omega)
                          intro v326 w88 ho hb hg hat
                          rw [← Ny325.out] at ho
                          have n0_ := Aside0.mk (Kd.R_after (ok := (fun k_ => some k_ ≠ (.slice Ao9 t297.length co9 : Value).ownBlock ∧ some k_ ≠ (.slice Ao10 t298.length co10 : Value).ownBlock ∧ some k_ ≠ (.slice Ao83 x10_2.length co83 : Value).ownBlock)) (by (with_reducible repeat (first | apply Kd.R_alloc | apply Kd.R_drewN | apply Kd.R_drew)); first | exact HO_3.out | exact Kd.R_mono HO_3.out (fun _ hk => by (obtain ⟨hk1_, hk2_⟩ := hk; (try obtain ⟨ha_, hk1_⟩ := hk1_); (try obtain ⟨hb_, hk1_⟩ := hk1_); (try obtain ⟨hc_, hk1_⟩ := hk1_); (repeat' apply And.intro) <;> assumption))) hg hat)
                          have n1_ := Aside0.mk (Kd.R_after (ok := (fun k_ => some k_ ≠ (.slice Ao8 t296.length co8 : Value).ownBlock ∧ some k_ ≠ (.slice Ao10 t298.length co10 : Value).ownBlock ∧ some k_ ≠ (.slice Ao83 x10_2.length co83 : Value).ownBlock)) (by (with_reducible repeat (first | apply Kd.R_alloc | apply Kd.R_drewN | apply Kd.R_drew)); first | exact HO_4.out | exact Kd.R_mono HO_4.out (fun _ hk => by (obtain ⟨hk1_, hk2_⟩ := hk; (try obtain ⟨ha_, hk1_⟩ := hk1_); (try obtain ⟨hb_, hk1_⟩ := hk1_); (try obtain ⟨hc_, hk1_⟩ := hk1_); (repeat' apply And.intro) <;> assumption))) hg hat)
                          have n2_ := Aside0.mk (Kd.R_after (ok := (fun k_ => some k_ ≠ (.slice Ao8 t296.length co8 : Value).ownBlock ∧ some k_ ≠ (.slice Ao9 t297.length co9 : Value).ownBlock ∧ some k_ ≠ (.slice Ao83 x10_2.length co83 : Value).ownBlock)) (by (with_reducible repeat (first | apply Kd.R_alloc | apply Kd.R_drewN | apply Kd.R_drew)); first | exact HO_5.out | exact Kd.R_mono HO_5.out (fun _ hk => by (obtain ⟨hk1_, hk2_⟩ := hk; (try obtain ⟨ha_, hk1_⟩ := hk1_); (try obtain ⟨hb_, hk1_⟩ := hk1_); (try obtain ⟨hc_, hk1_⟩ := hk1_); (repeat' apply And.intro) <;> assumption))) hg hat)
                          have n3_ := Aside0.mk (Kd.R_after (ok := (fun k_ => some k_ ≠ (.slice Ao8 t296.length co8 : Value).ownBlock ∧ some k_ ≠ (.slice Ao9 t297.length co9 : Value).ownBlock ∧ some k_ ≠ (.slice Ao10 t298.length co10 : Value).ownBlock)) (by (with_reducible repeat (first | apply Kd.R_alloc | apply Kd.R_drewN | apply Kd.R_drew)); first | exact HO_10.out | exact Kd.R_mono HO_10.out (fun _ hk => by (obtain ⟨hk1_, hk2_⟩ := hk; (try obtain ⟨ha_, hk1_⟩ := hk1_); (try obtain ⟨hb_, hk1_⟩ := hk1_); (try obtain ⟨hc_, hk1_⟩ := hk1_); (repeat' apply And.intro) <;> assumption))) hg hat)
                          have n4_ := Aside0.mk (hb)
                          have n5_ := Aside0.mk ((show Kd.C (Kd.int .i64) w88 A85 y328.length y328 from by rw [Ny328.out, KA85.out]; exact Kd.C_drop (m := 1) (c := co83) ((Kd.R_reads' (Kd.R_after (ok := (fun k_ => some k_ ≠ (.slice Ao8 t296.length co8 : Value).ownBlock ∧ some k_ ≠ (.slice Ao9 t297.length co9 : Value).ownBlock ∧ some k_ ≠ (.slice Ao10 t298.length co10 : Value).ownBlock)) (by (with_reducible repeat (first | apply Kd.R_alloc | apply Kd.R_drewN | apply Kd.R_drew)); first | exact HO_10.out | exact Kd.R_mono HO_10.out (fun _ hk => by (obtain ⟨hk1_, hk2_⟩ := hk; (try obtain ⟨ha_, hk1_⟩ := hk1_); (try obtain ⟨hb_, hk1_⟩ := hk1_); (try obtain ⟨hc_, hk1_⟩ := hk1_); (repeat' apply And.intro) <;> assumption))) hg hat)).2.2) KL85.out ((Kd.R_reads' (Kd.R_after (ok := (fun k_ => some k_ ≠ (.slice Ao8 t296.length co8 : Value).ownBlock ∧ some k_ ≠ (.slice Ao9 t297.length co9 : Value).ownBlock ∧ some k_ ≠ (.slice Ao10 t298.length co10 : Value).ownBlock)) (by (with_reducible repeat (first | apply Kd.R_alloc | apply Kd.R_drewN | apply Kd.R_drew)); first | exact HO_10.out | exact Kd.R_mono HO_10.out (fun _ hk => by (obtain ⟨hk1_, hk2_⟩ := hk; (try obtain ⟨ha_, hk1_⟩ := hk1_); (try obtain ⟨hb_, hk1_⟩ := hk1_); (try obtain ⟨hc_, hk1_⟩ := hk1_); (repeat' apply And.intro) <;> assumption))) hg hat)).2.1)))
                          have n6_ := Aside0.mk (ho)
                          clear HO_3
                          clear HO_4
                          clear HO_5
                          clear HO_10
                          clear HB
                          clear HR331
                          clear HO324
                          have HO_3 := n0_
                          have HO_4 := n1_
                          have HO_5 := n2_
                          have HO_10 := n3_
                          have HB := n4_
                          have HR331 := n5_
                          have HO327 := n6_
                          clear n0_ n1_ n2_ n3_ n4_ n5_ n6_
                          clear ho hb hg hat
                          refine hK.out _ _ trivial (fun hHeld => ?_)
                          clear hK K
                          refine norm_ (a' := ?_) ?_ ?_
                          rotate_left
                          · show Act.put _ (some 78) _ = _
                            simp only [Act.put, List.setIfInBounds_toArray, List.set_cons_zero, List.set_cons_succ, i64_w, i32_w]
                            rfl
                          refine one_ (i := 5) (N := some 81) #[true, true, true, true, true, true, false] rfl rfl (by kernel_rfl) (by decide) (fun K hK => ?_)
                          refine Kd.R_append_rows_step (Kd.int .i64) (w0 := w) w.heap.size (by rfl) (.tmp 78) (.tmp 80) 23 3 (.int .i64 0) 8 rfl Try.underlying23 info3 rfl (by decide) (by omega) v326 y325 y328 _ _ _ (fun k_ => some k_ ≠ (.slice Ao8 t296.length co8 : Value).ownBlock ∧ some k_ ≠ (.slice Ao9 t297.length co9 : Value).ownBlock ∧ some k_ ≠ (.slice Ao10 t298.length co10 : Value).ownBlock ∧ some k_ ≠ (.slice Ao83 x10_2.length co83 : Value).ownBlock) (fun _ => False) rfl rfl ?aO ?aR (fun _ _ h => h) (fun _ h => h.elim) ?aF ?aB ?aS ?aL ?_
                          (case aR => repeat (first | exact (by repeat (first | (with_reducible exact HR331.out) | (with_reducible refine Kd.C_alloc ?_ _) | (with_reducible refine Kd.C_drewN ?_ _) | (with_reducible refine Kd.C_drew ?_) | exact HR331.out)) | (with_reducible refine Kd.C_alloc ?_ _) | (with_reducible refine Kd.C_drewN ?_ _) | (with_reducible refine Kd.C_drew ?_)))
                          (case aB => exact (by repeat (first | (with_reducible first | exact HB.out | apply below_alloc | apply pw_below_drewN | apply below_drew1) | exact HB.out)))
                          (case aF => exact (fun k_ hk => ⟨Kd.fresh' (Kd.R_lt (by (with_reducible repeat (first | apply Kd.R_alloc | apply Kd.R_drewN | apply Kd.R_drew)); exact HO_3.out)) k_ hk, Kd.fresh' (Kd.R_lt (by (with_reducible repeat (first | apply Kd.R_alloc | apply Kd.R_drewN | apply Kd.R_drew)); exact HO_4.out)) k_ hk, Kd.fresh' (Kd.R_lt (by (with_reducible repeat (first | apply Kd.R_alloc | apply Kd.R_drewN | apply Kd.R_drew)); exact HO_5.out)) k_ hk, Kd.fresh' (Kd.R_lt (by (with_reducible repeat (first | apply Kd.R_alloc | apply Kd.R_drewN | apply Kd.R_drew)); exact HO_10.out)) k_ hk⟩))
                          (case aO => exact (by (with_reducible repeat (first | apply Kd.R_alloc | apply Kd.R_drewN | apply Kd.R_drew)); exact HO327.out))
                          (case aS => exact (below_size (by repeat (first | (with_reducible first | exact HB.out | apply below_alloc | apply pw_below_drewN | apply below_drew1) | exact HB.out))))
                          (case aL => have := LMc27.out; omega)
                          intro v333 w89 ho hb hg hat
                          rw [← Ny332.out] at ho
                          have n0_ := Aside0.mk (Kd.R_after (ok := (fun k_ => some k_ ≠ (.slice Ao9 t297.length co9 : Value).ownBlock ∧ some k_ ≠ (.slice Ao10 t298.length co10 : Value).ownBlock ∧ some k_ ≠ (.slice Ao83 x10_2.length co83 : Value).ownBlock)) (by (with_reducible repeat (first | apply Kd.R_alloc | apply Kd.R_drewN | apply Kd.R_drew)); first | exact HO_3.out | exact Kd.R_mono HO_3.out (fun _ hk => by (obtain ⟨hk1_, hk2_⟩ := hk; (try obtain ⟨ha_, hk1_⟩ := hk1_); (try obtain ⟨hb_, hk1_⟩ := hk1_); (try obtain ⟨hc_, hk1_⟩ := hk1_); (repeat' apply And.intro) <;> assumption))) hg hat)
                          have n1_ := Aside0.mk (Kd.R_after (ok := (fun k_ => some k_ ≠ (.slice Ao8 t296.length co8 : Value).ownBlock ∧ some k_ ≠ (.slice Ao10 t298.length co10 : Value).ownBlock ∧ some k_ ≠ (.slice Ao83 x10_2.length co83 : Value).ownBlock)) (by (with_reducible repeat (first | apply Kd.R_alloc | apply Kd.R_drewN | apply Kd.R_drew)); first | exact HO_4.out | exact Kd.R_mono HO_4.out (fun _ hk => by (obtain ⟨hk1_, hk2_⟩ := hk; (try obtain ⟨ha_, hk1_⟩ := hk1_); (try obtain ⟨hb_, hk1_⟩ := hk1_); (try obtain ⟨hc_, hk1_⟩ := hk1_); (repeat' apply And.intro) <;> assumption))) hg hat)
                          have n2_ := Aside0.mk (Kd.R_after (ok := (fun k_ => some k_ ≠ (.slice Ao8 t296.length co8 : Value).ownBlock ∧ some k_ ≠ (.slice Ao9 t297.length co9 : Value).ownBlock ∧ some k_ ≠ (.slice Ao83 x10_2.length co83 : Value).ownBlock)) (by (with_reducible repeat (first | apply Kd.R_alloc | apply Kd.R_drewN | apply Kd.R_drew)); first | exact HO_5.out | exact Kd.R_mono HO_5.out (fun _ hk => by (obtain ⟨hk1_, hk2_⟩ := hk; (try obtain ⟨ha_, hk1_⟩ := hk1_); (try obtain ⟨hb_, hk1_⟩ := hk1_); (try obtain ⟨hc_, hk1_⟩ := hk1_); (repeat' apply And.intro) <;> assumption))) hg hat)
                          have n3_ := Aside0.mk (Kd.R_after (ok := (fun k_ => some k_ ≠ (.slice Ao8 t296.length co8 : Value).ownBlock ∧ some k_ ≠ (.slice Ao9 t297.length co9 : Value).ownBlock ∧ some k_ ≠ (.slice Ao10 t298.length co10 : Value).ownBlock)) (by (with_reducible repeat (first | apply Kd.R_alloc | apply Kd.R_drewN | apply Kd.R_drew)); first | exact HO_10.out | exact Kd.R_mono HO_10.out (fun _ hk => by (obtain ⟨hk1_, hk2_⟩ := hk; (try obtain ⟨ha_, hk1_⟩ := hk1_); (try obtain ⟨hb_, hk1_⟩ := hk1_); (try obtain ⟨hc_, hk1_⟩ := hk1_); (repeat' apply And.intro) <;> assumption))) hg hat)
                          have n4_ := Aside0.mk (hb)
                          have n5_ := Aside0.mk ((show Kd.C (Kd.int .i64) w89 A85 y328.length y328 from by rw [Ny328.out, KA85.out]; exact Kd.C_drop (m := 1) (c := co83) ((Kd.R_reads' (Kd.R_after (ok := (fun k_ => some k_ ≠ (.slice Ao8 t296.length co8 : Value).ownBlock ∧ some k_ ≠ (.slice Ao9 t297.length co9 : Value).ownBlock ∧ some k_ ≠ (.slice Ao10 t298.length co10 : Value).ownBlock)) (by (with_reducible repeat (first | apply Kd.R_alloc | apply Kd.R_drewN | apply Kd.R_drew)); first | exact HO_10.out | exact Kd.R_mono HO_10.out (fun _ hk => by (obtain ⟨hk1_, hk2_⟩ := hk; (try obtain ⟨ha_, hk1_⟩ := hk1_); (try obtain ⟨hb_, hk1_⟩ := hk1_); (try obtain ⟨hc_, hk1_⟩ := hk1_); (repeat' apply And.intro) <;> assumption))) hg hat)).2.2) KL85.out ((Kd.R_reads' (Kd.R_after (ok := (fun k_ => some k_ ≠ (.slice Ao8 t296.length co8 : Value).ownBlock ∧ some k_ ≠ (.slice Ao9 t297.length co9 : Value).ownBlock ∧ some k_ ≠ (.slice Ao10 t298.length co10 : Value).ownBlock)) (by (with_reducible repeat (first | apply Kd.R_alloc | apply Kd.R_drewN | apply Kd.R_drew)); first | exact HO_10.out | exact Kd.R_mono HO_10.out (fun _ hk => by (obtain ⟨hk1_, hk2_⟩ := hk; (try obtain ⟨ha_, hk1_⟩ := hk1_); (try obtain ⟨hb_, hk1_⟩ := hk1_); (try obtain ⟨hc_, hk1_⟩ := hk1_); (repeat' apply And.intro) <;> assumption))) hg hat)).2.1)))
                          have n6_ := Aside0.mk (ho)
                          clear HO_3
                          clear HO_4
                          clear HO_5
                          clear HO_10
                          clear HB
                          clear HR331
                          clear HO327
                          have HO_3 := n0_
                          have HO_4 := n1_
                          have HO_5 := n2_
                          have HO_10 := n3_
                          have HB := n4_
                          have HR331 := n5_
                          have HO334 := n6_
                          clear n0_ n1_ n2_ n3_ n4_ n5_ n6_
                          clear ho hb hg hat
                          refine hK.out _ _ trivial (fun hHeld => ?_)
                          clear hK K
                          refine norm_ (a' := ?_) ?_ ?_
                          rotate_left
                          · show Act.put _ (some 81) _ = _
                            simp only [Act.put, List.setIfInBounds_toArray, List.set_cons_zero, List.set_cons_succ, i64_w, i32_w]
                            rfl
                          refine pure_ (i := 6) (N := some 14) (v := ?_) (a' := ?_) #[true, true, true, true, true, true, true] rfl rfl (by kernel_rfl) (fun _ _ _ h => h) (Or.inl ⟨by rfl, ?_⟩) ?_ ?_
                          rotate_left
                          · intro w'
                            go_simp
                            with_reducible rfl
                          rotate_left
                          · simp only [Act.put, List.setIfInBounds_toArray, List.set_cons_zero, List.set_cons_succ, i64_w, i32_w]
                            rfl
                          refine done_ (by kernel_rfl) ?_
                          obtain ⟨Ao90, co90, eo90⟩ := Kd.R_slice HO334.out
                          subst eo90
                          try go_wp2_with (first | ((with_reducible refine gate_callee (f := 14) rfl ?_); refine goesL_ (some 86) rfl rfl Try.func14 (by kernel_rfl) rfl #[.slice Ao8 t296.length co8, .slice Ao9 t297.length co9, .slice Ao90 y332.length co90] rfl (by (try simp only [List.map_toArray, List.map_cons, List.map_nil]); first | done | rfl | (simp only [List.length_drop, List.length_take]; rfl)) ?_; (with_reducible refine (impl_ClimbOf.calls k2 _ _ t296 _ _ t297 _ _ y332 t335 t336 _ ?side1 ?side2 ?side3 ?side4 ?side5 ?side6 A28.out).mono ?_); (case side1 => repeat (first | exact (Kd.R_reads' HO_3.out).2.2 | (with_reducible refine Kd.C_alloc ?_ _) | (with_reducible refine Kd.C_drewN ?_ _) | (with_reducible refine Kd.C_drew ?_))); (case side2 => exact (Kd.R_reads' HO_3.out).2.1); (case side3 => repeat (first | exact (Kd.R_reads' HO_4.out).2.2 | (with_reducible refine Kd.C_alloc ?_ _) | (with_reducible refine Kd.C_drewN ?_ _) | (with_reducible refine Kd.C_drew ?_))); (case side4 => exact (Kd.R_reads' HO_4.out).2.1); (case side5 => repeat (first | exact (Kd.R_reads' HO334.out).2.2 | (with_reducible refine Kd.C_alloc ?_ _) | (with_reducible refine Kd.C_drewN ?_ _) | (with_reducible refine Kd.C_drew ?_))); (case side6 => exact (Kd.R_reads' HO334.out).2.1); rintro e w' ⟨rfl, ⟨nd, rfl⟩⟩; refine ⟨_, rfl, ?_⟩))
                          go_ret
                          exact ⟨by first | rfl | (simp [errW_none, errW_some] <;> rfl) | (simp [*, errW_none, errW_some] <;> rfl), by repeat (first | (with_reducible first | exact HB.out | apply below_alloc | apply pw_below_drewN | apply below_drew1) | exact HB.out)⟩
                      · rw [if_neg c27] at H
                        exact absurd H (by simp)
                    · rw [if_neg c26] at H
                      exact absurd H (by simp)
                  · rw [if_neg c25] at H
                    exact absurd H (by simp)
          · replace c14 := Bool.eq_false_iff.mpr c14
            subst c14
            have H1 : (if t305 = 0 then ((laws_alive.f kj5).bind fun t309 => (some t309)) else (some false)) = some r := by rw [if_neg (show ¬ (false = true) by decide)] at H; exact H
            clear H
            have H := H1
            clear H1
            by_cases c91 : t305 = 0
            · rw [if_pos c91] at H
              have c91b0 : (t305 == 0) = true := beq_iff_eq.mpr c91
              have c91b1 : (t305 != 0) = false := bne_eq_false_iff_eq.mpr c91
              clear c91
              replace H := Option.bind_eq_some_iff.mp H
              obtain ⟨t309, A920, H⟩ := H
              replace H : (some t309) = some r := H
              have A92 := Aside0.mk A920
              clear A920
              obtain rfl := Option.some.inj H
              go_wp2_with (first | (go_at_call 15; (with_reducible refine (laws_alive.calls kj5  t309 _ A92.out).mono ?_); rintro e w93 ⟨rfl, hb⟩; have n0_ := Aside0.mk (Kd.R_below (by (with_reducible repeat (first | apply Kd.R_alloc | apply Kd.R_drewN | apply Kd.R_drew)); exact HO_3.out) hb); have n1_ := Aside0.mk (Kd.R_below (by (with_reducible repeat (first | apply Kd.R_alloc | apply Kd.R_drewN | apply Kd.R_drew)); exact HO_4.out) hb); have n2_ := Aside0.mk (Kd.R_below (by (with_reducible repeat (first | apply Kd.R_alloc | apply Kd.R_drewN | apply Kd.R_drew)); exact HO_5.out) hb); have n3_ := Aside0.mk (below_step (by repeat (first | (with_reducible first | exact HB.out | apply below_alloc | apply pw_below_drewN | apply below_drew1) | exact HB.out)) hb); clear HO_3; clear HO_4; clear HO_5; clear HB; have HO_3 := n0_; have HO_4 := n1_; have HO_5 := n2_; have HB := n3_; clear n0_ n1_ n2_ n3_; (try clear hb); (try clear hb2); (try clear hk); (try clear hi)))
              go_ret
              exact ⟨by first | rfl | (simp [errW_none, errW_some] <;> rfl) | (simp [*, errW_none, errW_some] <;> rfl), by repeat (first | (with_reducible first | exact HB.out | apply below_alloc | apply pw_below_drewN | apply below_drew1) | exact HB.out)⟩
            · rw [if_neg c91] at H
              have c91b0 : (t305 == 0) = false := beq_eq_false_iff_ne.mpr c91
              have c91b1 : (t305 != 0) = true := bne_iff_ne.mpr c91
              obtain rfl := Option.some.inj H
              go_wp2
              go_ret
              exact ⟨by first | rfl | (simp [errW_none, errW_some] <;> rfl) | (simp [*, errW_none, errW_some] <;> rfl), by repeat (first | (with_reducible first | exact HB.out | apply below_alloc | apply pw_below_drewN | apply below_drew1) | exact HB.out)⟩

/-- THE ONE PURE STATEMENT of laws_FnClimbOf: yours. -/
def laws_FnClimbOf.Pure : Prop := ∀ (l0 : List Int), l0.length ≤ maxLen → l0.length * 1 ≤ 140737488351232 → (∀ x ∈ l0, (Lit.int .u8 x).wf = true) → ∃ k, laws_FnClimbOf.f k l0 = some true
theorem laws_FnClimbOf.walk (P : laws_FnClimbOf.Pure) (a0 : Option Addr) (len0 cap0 : Nat) (z0 : List Int) (w : World) (w0 : (a0 = none ∧ len0 = 0 ∧ cap0 = 0 ∧ z0 = []) ∨ ∃ x, a0 = some x ∧ len0 ≤ cap0 ∧ cap0 ≤ maxLen ∧ z0.length = cap0 ∧ (∀ i, i < z0.length → w.cell? (x.add i) = some (.int .u8 (z0.getD i 0))) ∧ ∀ n ∈ z0, (Lit.int .u8 n).wf = true) (y0 : len0 * 1 ≤ 140737488351232) :
    Calls Try.prog 9 #[.slice a0 len0 cap0] w fun e w' => e = .returned (.bool true) ∧ Below w.heap.size w w' := by
  obtain ⟨l0, rfl, hr0, hm0, hw0, hc0⟩ := ReadsInt.ofRowC w0
  obtain ⟨k, h⟩ := P l0 hm0 y0 hw0
  refine (laws_FnClimbOf.calls k _ _ l0 true w (Kd.C_of_reads (d := (0 : Int)) (h1 := fun _ => rfl) hr0) hc0 h).mono ?_
  rintro e w' ⟨rfl, hd⟩
  exact ⟨rfl, hd⟩

end Go.Proofs.Ytcjjiajcjooccaa.PFnClimbOf
