-- Written by a program of this session (the kit's print, changed).
import Derived.Test.YtkofidpgbmajdaaSq
import Derived.Test.YtkofidpgbmajdaaPFnBestTourx0
import Derived.Test.YtkofidpgbmajdaaPFnBestTourx1
import Derived.Test.YtkofidpgbmajdaaPFnBestTourx2
namespace Go.Proofs.Ytkofidpgbmajdaa.PFnBestTour
open Go.RowKit Go.Proofs.YtkofidpgbmajdaaW.PrintWords Go.Proofs.YtkofidpgbmajdaaW.PrintLast Go.Proofs.YtkofidpgbmajdaaW.PrintMore
attribute [local go_sem] max2_int min2_int max_two min_two max_three min_three max_four min_four   -- for this text's walks alone
set_option linter.unusedVariables false
set_option linter.unusedSimpArgs false

/-! ### spec_BestTour: function 10 -/
mutual
def spec_BestTour.j0 : Nat → List Int → List Int → Int → Int → Bool → Option (List Int)
 | 0, _, _, _, _, _ => none
 | k + 1, x0, x1, x2, x3, x32 => if x32 = true then (some (([] : List Int))) else ((spec_l6Most.f k x0 x1 x3).bind fun t135 => (if 0 ≤ x2 then (if x2 < (t135.length : Int) then (spec_BestTour.l0 k x0 x1 x2 (rd t135 x2) 0) else (none)) else (none)))
def spec_BestTour.l0 : Nat → List Int → List Int → Int → Int → Int → Option (List Int)
 | 0, _, _, _, _, _ => none
 | k + 1, x0, x1, x2, x9, x10 => (spec_l6Most.f k x0 x1 x10).bind fun t139 => (if 0 ≤ x2 then (if x2 < (t139.length : Int) then (if (rd t139 x2) < x9 then (spec_BestTour.l0 k x0 x1 x2 x9 (wrap64 (x10 + 1))) else (spec_BestTour.l1 k x0 x1 x9 (([x2] : List Int)) x10)) else (none)) else (none))
def spec_BestTour.l1 : Nat → List Int → List Int → Int → List Int → Int → Option (List Int)
 | 0, _, _, _, _, _ => none
 | k + 1, x0, x1, x9, x11, x12 => if x12 > 0 then ((spec_l6Most.f k x0 x1 (wrap64 (x12 - 1))).bind fun t146 => (if 0 ≤ (wrap64 ((x11.length : Int) - 1)) then (if (wrap64 ((x11.length : Int) - 1)) < (x11.length : Int) then (spec_BestTour.l2 k x0 x1 x9 x11 x12 t146 (rd x11 (wrap64 ((x11.length : Int) - 1))) 0) else (none)) else (none))) else (some x11)
def spec_BestTour.l2 : Nat → List Int → List Int → Int → List Int → Int → List Int → Int → Int → Option (List Int)
 | 0, _, _, _, _, _, _, _, _ => none
 | k + 1, x0, x1, x9, x11, x12, x13, x14, x15 => if x15 < (x0.length : Int) then (if 0 ≤ x14 then (if x14 < (x0.length : Int) then (if 0 ≤ x15 then (if (Int.tmod (shr .i64 (rd x0 x14) x15) 2) = 1 then (if x14 < (x1.length : Int) then (if x15 < (x1.length : Int) then ((spec_l6Rise.f (rd x1 x14) (rd x1 x15)).bind fun t153 => (if x15 < (x13.length : Int) then (if (wrap64 (t153 + (rd x13 x15))) = x9 then (if x11.length < 17592186044416 then (spec_BestTour.l1 k x0 x1 (rd x13 x15) (x11 ++ [x15]) (wrap64 (x12 - 1))) else (none)) else (spec_BestTour.l2 k x0 x1 x9 x11 x12 x13 x14 (wrap64 (x15 + 1)))) else (none))) else (none)) else (none)) else (spec_BestTour.l2 k x0 x1 x9 x11 x12 x13 x14 (wrap64 (x15 + 1)))) else (none)) else (none)) else (none)) else (spec_BestTour.l1 k x0 x1 x9 x11 (wrap64 (x12 - 1)))
end
def spec_BestTour.f (k : Nat) (l0 : List Int) (l1 : List Int) (a2 : Int) (a3 : Int) : Option (List Int) := (spec_l3Ok.f k l0 3 l1).bind fun t129 => (if t129 = true then ((spec_l1In.f a2 0 (wrap64 ((l0.length : Int) - 1))).bind fun t130 => (if t130 = true then ((spec_l1In.f a3 0 11).bind fun t131 => (spec_BestTour.j0 k l0 l1 a2 a3 (!t131))) else (spec_BestTour.j0 k l0 l1 a2 a3 true))) else (spec_BestTour.j0 k l0 l1 a2 a3 true))
theorem spec_BestTour.mono_l : ∀ k, (∀ y0 y1 y2 y3 y4, LeO (spec_BestTour.j0 k y0 y1 y2 y3 y4) (spec_BestTour.j0 (k + 1) y0 y1 y2 y3 y4)) ∧ (∀ y0 y1 y2 y3 y4, LeO (spec_BestTour.l0 k y0 y1 y2 y3 y4) (spec_BestTour.l0 (k + 1) y0 y1 y2 y3 y4)) ∧ (∀ y0 y1 y2 y3 y4, LeO (spec_BestTour.l1 k y0 y1 y2 y3 y4) (spec_BestTour.l1 (k + 1) y0 y1 y2 y3 y4)) ∧ (∀ y0 y1 y2 y3 y4 y5 y6 y7, LeO (spec_BestTour.l2 k y0 y1 y2 y3 y4 y5 y6 y7) (spec_BestTour.l2 (k + 1) y0 y1 y2 y3 y4 y5 y6 y7))
 | 0 => ⟨fun _ _ _ _ _ r h => by simp [spec_BestTour.j0] at h, fun _ _ _ _ _ r h => by simp [spec_BestTour.l0] at h, fun _ _ _ _ _ r h => by simp [spec_BestTour.l1] at h, fun _ _ _ _ _ _ _ _ r h => by simp [spec_BestTour.l2] at h⟩
 | k + 1 => by
  obtain ⟨ih0, ih1, ih2, ih3⟩ := spec_BestTour.mono_l k
  refine ⟨?_, ?_, ?_, ?_⟩
  ·intro y0 y1 y2 y3 y4
   unfold spec_BestTour.j0
   repeat' first|(with_reducible first|exact ih0 _ _ _ _ _|exact ih1 _ _ _ _ _|exact ih2 _ _ _ _ _|exact ih3 _ _ _ _ _ _ _ _|exact spec_l3Ok.mono _ _ _ _|exact spec_l6Most.mono _ _ _ _|exact LeO.refl _|exact LeO.none _|refine LeO.ite ?_ ?_|refine LeO.bind ?_ (fun _ => ?_))|exact ih0 _ _ _ _ _|exact ih1 _ _ _ _ _|exact ih2 _ _ _ _ _|exact ih3 _ _ _ _ _ _ _ _|exact spec_l3Ok.mono _ _ _ _|exact spec_l6Most.mono _ _ _ _|exact LeO.none _|refine LeO.ite ?_ ?_|refine LeO.bind ?_ (fun _ => ?_)
  ·intro y0 y1 y2 y3 y4
   unfold spec_BestTour.l0
   repeat' first|(with_reducible first|exact ih0 _ _ _ _ _|exact ih1 _ _ _ _ _|exact ih2 _ _ _ _ _|exact ih3 _ _ _ _ _ _ _ _|exact spec_l3Ok.mono _ _ _ _|exact spec_l6Most.mono _ _ _ _|exact LeO.refl _|exact LeO.none _|refine LeO.ite ?_ ?_|refine LeO.bind ?_ (fun _ => ?_))|exact ih0 _ _ _ _ _|exact ih1 _ _ _ _ _|exact ih2 _ _ _ _ _|exact ih3 _ _ _ _ _ _ _ _|exact spec_l3Ok.mono _ _ _ _|exact spec_l6Most.mono _ _ _ _|exact LeO.none _|refine LeO.ite ?_ ?_|refine LeO.bind ?_ (fun _ => ?_)
  ·intro y0 y1 y2 y3 y4
   unfold spec_BestTour.l1
   repeat' first|(with_reducible first|exact ih0 _ _ _ _ _|exact ih1 _ _ _ _ _|exact ih2 _ _ _ _ _|exact ih3 _ _ _ _ _ _ _ _|exact spec_l3Ok.mono _ _ _ _|exact spec_l6Most.mono _ _ _ _|exact LeO.refl _|exact LeO.none _|refine LeO.ite ?_ ?_|refine LeO.bind ?_ (fun _ => ?_))|exact ih0 _ _ _ _ _|exact ih1 _ _ _ _ _|exact ih2 _ _ _ _ _|exact ih3 _ _ _ _ _ _ _ _|exact spec_l3Ok.mono _ _ _ _|exact spec_l6Most.mono _ _ _ _|exact LeO.none _|refine LeO.ite ?_ ?_|refine LeO.bind ?_ (fun _ => ?_)
  ·intro y0 y1 y2 y3 y4 y5 y6 y7
   unfold spec_BestTour.l2
   repeat' first|(with_reducible first|exact ih0 _ _ _ _ _|exact ih1 _ _ _ _ _|exact ih2 _ _ _ _ _|exact ih3 _ _ _ _ _ _ _ _|exact spec_l3Ok.mono _ _ _ _|exact spec_l6Most.mono _ _ _ _|exact LeO.refl _|exact LeO.none _|refine LeO.ite ?_ ?_|refine LeO.bind ?_ (fun _ => ?_))|exact ih0 _ _ _ _ _|exact ih1 _ _ _ _ _|exact ih2 _ _ _ _ _|exact ih3 _ _ _ _ _ _ _ _|exact spec_l3Ok.mono _ _ _ _|exact spec_l6Most.mono _ _ _ _|exact LeO.none _|refine LeO.ite ?_ ?_|refine LeO.bind ?_ (fun _ => ?_)
theorem spec_BestTour.mono : ∀ a0 a1 a2 a3 k, LeO (spec_BestTour.f k a0 a1 a2 a3) (spec_BestTour.f (k + 1) a0 a1 a2 a3) := by
 intro a0 a1 a2 a3 k
 obtain ⟨ih0, ih1, ih2, ih3⟩ := spec_BestTour.mono_l k
 unfold spec_BestTour.f
 repeat' first|(with_reducible first|exact ih0 _ _ _ _ _|exact ih1 _ _ _ _ _|exact ih2 _ _ _ _ _|exact ih3 _ _ _ _ _ _ _ _|exact spec_l3Ok.mono _ _ _ _|exact spec_l6Most.mono _ _ _ _|exact LeO.refl _|exact LeO.none _|refine LeO.ite ?_ ?_|refine LeO.bind ?_ (fun _ => ?_))|exact ih0 _ _ _ _ _|exact ih1 _ _ _ _ _|exact ih2 _ _ _ _ _|exact ih3 _ _ _ _ _ _ _ _|exact spec_l3Ok.mono _ _ _ _|exact spec_l6Most.mono _ _ _ _|exact LeO.none _|refine LeO.ite ?_ ?_|refine LeO.bind ?_ (fun _ => ?_)
set_option maxHeartbeats 8000000 in
set_option maxRecDepth 100000 in
theorem spec_BestTour.calls (k : Nat) (A0 : Option Addr) (c0 : Nat) (l0 : List Int) (A1 : Option Addr) (c1 : Nat) (l1 : List Int) (a2 : Int) (a3 : Int) (r : List Int) (w : World) (hr0 : Kd.C (Kd.int .i64) w A0 l0.length l0) (hc0 : l0.length ≤ c0) (hr1 : Kd.C (Kd.int .i64) w A1 l1.length l1) (hc1 : l1.length ≤ c1) (h : spec_BestTour.f k l0 l1 a2 a3 = some r) :
  Calls Try.prog 10 #[.slice A0 l0.length c0, .slice A1 l1.length c1, .int .i64 a2, .int .i64 a3] w fun e w' => ∃ v0_ : Value, e = .returned (v0_) ∧ Kd.R (Kd.int .i64) 3 w' w.heap.size (fun _ => True) v0_ r ∧ Below w.heap.size w w' := by
 have HR0 := Aside0.mk hr0
 have HC0 := Aside0.mk hc0
 clear hr0 hc0
 have HR1 := Aside0.mk hr1
 have HC1 := Aside0.mk hc1
 clear hr1 hc1
 have HB := Aside0.mk (Below.refl w.heap.size w)
 have H : ((spec_l3Ok.f k l0 3 l1).bind fun t129 => (if t129 = true then ((spec_l1In.f a2 0 (wrap64 ((l0.length : Int) - 1))).bind fun t130 => (if t130 = true then ((spec_l1In.f a3 0 11).bind fun t131 => (spec_BestTour.j0 k l0 l1 a2 a3 (!t131))) else (spec_BestTour.j0 k l0 l1 a2 a3 true))) else (spec_BestTour.j0 k l0 l1 a2 a3 true))) = some r := h
 clear h
 have HC5 := Aside0.mk H
 clear H
 go_enter Try.func10, Try.ntmps10
 go_upto_region 1 with (fail)
 repeat (go_quiet (fail);go_upto_region 1 with (fail))
 go_cut [32] (fun v32 wc => ∃ (kq : Nat) (x32_4 : Bool), v32 = .bool x32_4 ∧ Aside0 (spec_BestTour.j0 kq l0 l1 a2 a3 x32_4 = some r) ∧ Aside0 (kq ≤ k) ∧ Aside0 (Below w.heap.size w wc))
 case first =>
  have H := HC5.out
  clear HC5
  replace H := Option.bind_eq_some_iff.mp H
  obtain ⟨t129, A60, H⟩ := H
  replace H : (if t129 = true then ((spec_l1In.f a2 0 (wrap64 ((l0.length : Int) - 1))).bind fun t130 => (if t130 = true then ((spec_l1In.f a3 0 11).bind fun t131 => (spec_BestTour.j0 k l0 l1 a2 a3 (!t131))) else (spec_BestTour.j0 k l0 l1 a2 a3 true))) else (spec_BestTour.j0 k l0 l1 a2 a3 true)) = some r := H
  have A6 := Aside0.mk A60
  clear A60
  by_cases c7 : t129 = true
  ·subst c7
   have H1 : ((spec_l1In.f a2 0 (wrap64 ((l0.length : Int) - 1))).bind fun t130 => (if t130 = true then ((spec_l1In.f a3 0 11).bind fun t131 => (spec_BestTour.j0 k l0 l1 a2 a3 (!t131))) else (spec_BestTour.j0 k l0 l1 a2 a3 true))) = some r := by rw [if_pos rfl] at H; exact H
   clear H
   have H := H1
   clear H1
   replace H := Option.bind_eq_some_iff.mp H
   obtain ⟨t130, A80, H⟩ := H
   replace H : (if t130 = true then ((spec_l1In.f a3 0 11).bind fun t131 => (spec_BestTour.j0 k l0 l1 a2 a3 (!t131))) else (spec_BestTour.j0 k l0 l1 a2 a3 true)) = some r := H
   have A8 := Aside0.mk A80
   clear A80
   by_cases c9 : t130 = true
   ·subst c9
    have H1 : ((spec_l1In.f a3 0 11).bind fun t131 => (spec_BestTour.j0 k l0 l1 a2 a3 (!t131))) = some r := by rw [if_pos rfl] at H; exact H
    clear H
    have H := H1
    clear H1
    replace H := Option.bind_eq_some_iff.mp H
    obtain ⟨t131, A100, H⟩ := H
    replace H : (spec_BestTour.j0 k l0 l1 a2 a3 (!t131)) = some r := H
    have A10 := Aside0.mk A100
    clear A100
    have H' := Aside0.mk H
    clear H
    go_wp2_with (first|(go_at_call 23;(with_reducible refine (spec_l3Ok.calls k _ _ l0 3 _ _ l1 true _ ?side1 ?side2 ?side3 ?side4 A6.out).mono ?_);(case side1 => repeat (first|exact (Kd.C_below HR0.out HB.out)|(with_reducible first|refine cA ?_ _|refine cN ?_ _|refine cD ?_)));(case side2 => exact HC0.out);(case side3 => repeat (first|exact (Kd.C_below HR1.out HB.out)|(with_reducible first|refine cA ?_ _|refine cN ?_ _|refine cD ?_)));(case side4 => exact HC1.out);rintro e w' ⟨rfl,⟨nd,rfl⟩⟩;(try first|exact ⟨rfl,_,dD _ _ _⟩|exact ⟨rfl,_,Eq.trans (dD _ _ _) (congrArg (World.drewN _) (nA _ _ _))⟩))|(go_at_call 24;(with_reducible refine (spec_l1In.calls a2 0 (wrap64 ((l0.length : Int) - 1)) true _ A8.out).mono ?_);rintro e w' ⟨rfl,⟨nd,rfl⟩⟩;(try first|exact ⟨rfl,_,dD _ _ _⟩|exact ⟨rfl,_,Eq.trans (dD _ _ _) (congrArg (World.drewN _) (nA _ _ _))⟩))|(go_at_call 24;(with_reducible refine (spec_l1In.calls a3 0 11 t131 _ A10.out).mono ?_);rintro e w' ⟨rfl,⟨nd,rfl⟩⟩;(try first|exact ⟨rfl,_,dD _ _ _⟩|exact ⟨rfl,_,Eq.trans (dD _ _ _) (congrArg (World.drewN _) (nA _ _ _))⟩)))
    repeat (go_quiet (first|(go_at_call 23;(with_reducible refine (spec_l3Ok.calls k _ _ l0 3 _ _ l1 true _ ?side1 ?side2 ?side3 ?side4 A6.out).mono ?_);(case side1 => repeat (first|exact (Kd.C_below HR0.out HB.out)|(with_reducible first|refine cA ?_ _|refine cN ?_ _|refine cD ?_)));(case side2 => exact HC0.out);(case side3 => repeat (first|exact (Kd.C_below HR1.out HB.out)|(with_reducible first|refine cA ?_ _|refine cN ?_ _|refine cD ?_)));(case side4 => exact HC1.out);rintro e w' ⟨rfl,⟨nd,rfl⟩⟩;(try first|exact ⟨rfl,_,dD _ _ _⟩|exact ⟨rfl,_,Eq.trans (dD _ _ _) (congrArg (World.drewN _) (nA _ _ _))⟩))|(go_at_call 24;(with_reducible refine (spec_l1In.calls a2 0 (wrap64 ((l0.length : Int) - 1)) true _ A8.out).mono ?_);rintro e w' ⟨rfl,⟨nd,rfl⟩⟩;(try first|exact ⟨rfl,_,dD _ _ _⟩|exact ⟨rfl,_,Eq.trans (dD _ _ _) (congrArg (World.drewN _) (nA _ _ _))⟩))|(go_at_call 24;(with_reducible refine (spec_l1In.calls a3 0 11 t131 _ A10.out).mono ?_);rintro e w' ⟨rfl,⟨nd,rfl⟩⟩;(try first|exact ⟨rfl,_,dD _ _ _⟩|exact ⟨rfl,_,Eq.trans (dD _ _ _) (congrArg (World.drewN _) (nA _ _ _))⟩)));try go_wp2_with (first|(go_at_call 23;(with_reducible refine (spec_l3Ok.calls k _ _ l0 3 _ _ l1 true _ ?side1 ?side2 ?side3 ?side4 A6.out).mono ?_);(case side1 => repeat (first|exact (Kd.C_below HR0.out HB.out)|(with_reducible first|refine cA ?_ _|refine cN ?_ _|refine cD ?_)));(case side2 => exact HC0.out);(case side3 => repeat (first|exact (Kd.C_below HR1.out HB.out)|(with_reducible first|refine cA ?_ _|refine cN ?_ _|refine cD ?_)));(case side4 => exact HC1.out);rintro e w' ⟨rfl,⟨nd,rfl⟩⟩;(try first|exact ⟨rfl,_,dD _ _ _⟩|exact ⟨rfl,_,Eq.trans (dD _ _ _) (congrArg (World.drewN _) (nA _ _ _))⟩))|(go_at_call 24;(with_reducible refine (spec_l1In.calls a2 0 (wrap64 ((l0.length : Int) - 1)) true _ A8.out).mono ?_);rintro e w' ⟨rfl,⟨nd,rfl⟩⟩;(try first|exact ⟨rfl,_,dD _ _ _⟩|exact ⟨rfl,_,Eq.trans (dD _ _ _) (congrArg (World.drewN _) (nA _ _ _))⟩))|(go_at_call 24;(with_reducible refine (spec_l1In.calls a3 0 11 t131 _ A10.out).mono ?_);rintro e w' ⟨rfl,⟨nd,rfl⟩⟩;(try first|exact ⟨rfl,_,dD _ _ _⟩|exact ⟨rfl,_,Eq.trans (dD _ _ _) (congrArg (World.drewN _) (nA _ _ _))⟩))))
    go_meet
    case rel => exact ⟨_, (!t131), (by first|rfl|(simp; done)|(simp [*]; done)), H', ⟨by first|omega|exact Nat.le_refl _⟩, ⟨by repeat (first|(with_reducible first|exact HB.out|apply bA|apply bN|apply bD)|exact HB.out)⟩⟩
   ·replace c9 := Bool.eq_false_iff.mpr c9
    subst c9
    have H1 : (spec_BestTour.j0 k l0 l1 a2 a3 true) = some r := by rw [if_neg (show ¬ (false = true) by decide)] at H; exact H
    clear H
    have H := H1
    clear H1
    have H' := Aside0.mk H
    clear H
    go_wp2_with (first|(go_at_call 23;(with_reducible refine (spec_l3Ok.calls k _ _ l0 3 _ _ l1 true _ ?side1 ?side2 ?side3 ?side4 A6.out).mono ?_);(case side1 => repeat (first|exact (Kd.C_below HR0.out HB.out)|(with_reducible first|refine cA ?_ _|refine cN ?_ _|refine cD ?_)));(case side2 => exact HC0.out);(case side3 => repeat (first|exact (Kd.C_below HR1.out HB.out)|(with_reducible first|refine cA ?_ _|refine cN ?_ _|refine cD ?_)));(case side4 => exact HC1.out);rintro e w' ⟨rfl,⟨nd,rfl⟩⟩;(try first|exact ⟨rfl,_,dD _ _ _⟩|exact ⟨rfl,_,Eq.trans (dD _ _ _) (congrArg (World.drewN _) (nA _ _ _))⟩))|(go_at_call 24;(with_reducible refine (spec_l1In.calls a2 0 (wrap64 ((l0.length : Int) - 1)) false _ A8.out).mono ?_);rintro e w' ⟨rfl,⟨nd,rfl⟩⟩;(try first|exact ⟨rfl,_,dD _ _ _⟩|exact ⟨rfl,_,Eq.trans (dD _ _ _) (congrArg (World.drewN _) (nA _ _ _))⟩)))
    repeat (go_quiet (first|(go_at_call 23;(with_reducible refine (spec_l3Ok.calls k _ _ l0 3 _ _ l1 true _ ?side1 ?side2 ?side3 ?side4 A6.out).mono ?_);(case side1 => repeat (first|exact (Kd.C_below HR0.out HB.out)|(with_reducible first|refine cA ?_ _|refine cN ?_ _|refine cD ?_)));(case side2 => exact HC0.out);(case side3 => repeat (first|exact (Kd.C_below HR1.out HB.out)|(with_reducible first|refine cA ?_ _|refine cN ?_ _|refine cD ?_)));(case side4 => exact HC1.out);rintro e w' ⟨rfl,⟨nd,rfl⟩⟩;(try first|exact ⟨rfl,_,dD _ _ _⟩|exact ⟨rfl,_,Eq.trans (dD _ _ _) (congrArg (World.drewN _) (nA _ _ _))⟩))|(go_at_call 24;(with_reducible refine (spec_l1In.calls a2 0 (wrap64 ((l0.length : Int) - 1)) false _ A8.out).mono ?_);rintro e w' ⟨rfl,⟨nd,rfl⟩⟩;(try first|exact ⟨rfl,_,dD _ _ _⟩|exact ⟨rfl,_,Eq.trans (dD _ _ _) (congrArg (World.drewN _) (nA _ _ _))⟩)));try go_wp2_with (first|(go_at_call 23;(with_reducible refine (spec_l3Ok.calls k _ _ l0 3 _ _ l1 true _ ?side1 ?side2 ?side3 ?side4 A6.out).mono ?_);(case side1 => repeat (first|exact (Kd.C_below HR0.out HB.out)|(with_reducible first|refine cA ?_ _|refine cN ?_ _|refine cD ?_)));(case side2 => exact HC0.out);(case side3 => repeat (first|exact (Kd.C_below HR1.out HB.out)|(with_reducible first|refine cA ?_ _|refine cN ?_ _|refine cD ?_)));(case side4 => exact HC1.out);rintro e w' ⟨rfl,⟨nd,rfl⟩⟩;(try first|exact ⟨rfl,_,dD _ _ _⟩|exact ⟨rfl,_,Eq.trans (dD _ _ _) (congrArg (World.drewN _) (nA _ _ _))⟩))|(go_at_call 24;(with_reducible refine (spec_l1In.calls a2 0 (wrap64 ((l0.length : Int) - 1)) false _ A8.out).mono ?_);rintro e w' ⟨rfl,⟨nd,rfl⟩⟩;(try first|exact ⟨rfl,_,dD _ _ _⟩|exact ⟨rfl,_,Eq.trans (dD _ _ _) (congrArg (World.drewN _) (nA _ _ _))⟩))))
    go_meet
    case rel => exact ⟨_, (true), (by first|rfl|(simp; done)|(simp [*]; done)), H', ⟨by first|omega|exact Nat.le_refl _⟩, ⟨by repeat (first|(with_reducible first|exact HB.out|apply bA|apply bN|apply bD)|exact HB.out)⟩⟩
  ·replace c7 := Bool.eq_false_iff.mpr c7
   subst c7
   have H1 : (spec_BestTour.j0 k l0 l1 a2 a3 true) = some r := by rw [if_neg (show ¬ (false = true) by decide)] at H; exact H
   clear H
   have H := H1
   clear H1
   have H' := Aside0.mk H
   clear H
   go_wp2_with (first|(go_at_call 23;(with_reducible refine (spec_l3Ok.calls k _ _ l0 3 _ _ l1 false _ ?side1 ?side2 ?side3 ?side4 A6.out).mono ?_);(case side1 => repeat (first|exact (Kd.C_below HR0.out HB.out)|(with_reducible first|refine cA ?_ _|refine cN ?_ _|refine cD ?_)));(case side2 => exact HC0.out);(case side3 => repeat (first|exact (Kd.C_below HR1.out HB.out)|(with_reducible first|refine cA ?_ _|refine cN ?_ _|refine cD ?_)));(case side4 => exact HC1.out);rintro e w' ⟨rfl,⟨nd,rfl⟩⟩;(try first|exact ⟨rfl,_,dD _ _ _⟩|exact ⟨rfl,_,Eq.trans (dD _ _ _) (congrArg (World.drewN _) (nA _ _ _))⟩)))
   repeat (go_quiet (first|(go_at_call 23;(with_reducible refine (spec_l3Ok.calls k _ _ l0 3 _ _ l1 false _ ?side1 ?side2 ?side3 ?side4 A6.out).mono ?_);(case side1 => repeat (first|exact (Kd.C_below HR0.out HB.out)|(with_reducible first|refine cA ?_ _|refine cN ?_ _|refine cD ?_)));(case side2 => exact HC0.out);(case side3 => repeat (first|exact (Kd.C_below HR1.out HB.out)|(with_reducible first|refine cA ?_ _|refine cN ?_ _|refine cD ?_)));(case side4 => exact HC1.out);rintro e w' ⟨rfl,⟨nd,rfl⟩⟩;(try first|exact ⟨rfl,_,dD _ _ _⟩|exact ⟨rfl,_,Eq.trans (dD _ _ _) (congrArg (World.drewN _) (nA _ _ _))⟩)));try go_wp2_with (first|(go_at_call 23;(with_reducible refine (spec_l3Ok.calls k _ _ l0 3 _ _ l1 false _ ?side1 ?side2 ?side3 ?side4 A6.out).mono ?_);(case side1 => repeat (first|exact (Kd.C_below HR0.out HB.out)|(with_reducible first|refine cA ?_ _|refine cN ?_ _|refine cD ?_)));(case side2 => exact HC0.out);(case side3 => repeat (first|exact (Kd.C_below HR1.out HB.out)|(with_reducible first|refine cA ?_ _|refine cN ?_ _|refine cD ?_)));(case side4 => exact HC1.out);rintro e w' ⟨rfl,⟨nd,rfl⟩⟩;(try first|exact ⟨rfl,_,dD _ _ _⟩|exact ⟨rfl,_,Eq.trans (dD _ _ _) (congrArg (World.drewN _) (nA _ _ _))⟩))))
   go_meet
   case rel => exact ⟨_, (true), (by first|rfl|(simp; done)|(simp [*]; done)), H', ⟨by first|omega|exact Nat.le_refl _⟩, ⟨by repeat (first|(with_reducible first|exact HB.out|apply bA|apply bN|apply bD)|exact HB.out)⟩⟩
 case rest =>
  clear HC5
  try clear c1
  try clear p2
  try clear p6
  try clear c7
  try clear c9
  try clear c10
  obtain ⟨kq, x32_4, rfl, HA, HJ4, HB⟩ := hcut
  cases kq with
  | zero => exact absurd HA.out (by simp [spec_BestTour.j0])
  | succ kj4 =>
   have H := HA.out
   clear HA
   simp only [spec_BestTour.j0] at H
   by_cases c11 : x32_4 = true
   ·subst c11
    have H1 : (some (([] : List Int))) = some r := by rw [if_pos rfl] at H; exact H
    clear H
    have H := H1
    clear H1
    obtain ⟨y132, hy132⟩ : ∃ y_ : List Int, y_ = (([] : List Int)) := ⟨_, rfl⟩
    replace H : (some y132) = some r := by first|(rw [hy132]; with_reducible exact H)|(have H2_ := (Option.bind_some _ _).symm.trans H; rw [hy132]; with_reducible exact H2_)|(have H2_ := (Option.bind_some _ _).symm.trans H; with_reducible exact H2_)|with_reducible exact H|(rw [hy132]; exact H)|exact H
    have Ny132 := Aside0.mk hy132
    clear hy132
    obtain rfl := Option.some.inj H
    go_wp2_with (first|((with_reducible refine gate_dst (N:=33) rfl ?_);(try (refine gate_guard (by rfl) ?_;dsimp only));refine Kd.R_lit (Kd.int .i64) _ 3 ?hg (N:=33) ?hd (xs:=([] : List Int)) (inner:=[]) (ok:=fun _ => True) (okp:=fun _ => True) ?hr ?hp (fun _ hk => hk) trivial (Below.refl _ _) (Nat.le_refl _) (by simp) ?_;(case hd => rfl);(case hg => rfl);(case hr => first|(go_simp;done)|(go_simp;rfl));(case hp => exact (Reps.none _ _));intro v133 w12 ho13 hb hg_ hnew_;clear hg_ hnew_;(first|rw [← Ny132.out] at ho13|(simp only [Int.reduceToNat] at ho13;rw [← Ny132.out] at ho13));have n0_:=Aside0.mk (Kd.R_lower ho13 (bS (by repeat (first|(with_reducible first|exact HB.out|apply bA|apply bN|apply bD)|exact HB.out))));have n1_:=Aside0.mk (bT (by repeat (first|(with_reducible first|exact HB.out|apply bA|apply bN|apply bD)|exact HB.out)) hb);clear HB;have HO134:=n0_;have HB:=n1_;clear n0_ n1_;clear hb ho13))
    repeat (go_quiet (first|((with_reducible refine gate_dst (N:=33) rfl ?_);(try (refine gate_guard (by rfl) ?_;dsimp only));refine Kd.R_lit (Kd.int .i64) _ 3 ?hg (N:=33) ?hd (xs:=([] : List Int)) (inner:=[]) (ok:=fun _ => True) (okp:=fun _ => True) ?hr ?hp (fun _ hk => hk) trivial (Below.refl _ _) (Nat.le_refl _) (by simp) ?_;(case hd => rfl);(case hg => rfl);(case hr => first|(go_simp;done)|(go_simp;rfl));(case hp => exact (Reps.none _ _));intro v133 w12 ho13 hb hg_ hnew_;clear hg_ hnew_;(first|rw [← Ny132.out] at ho13|(simp only [Int.reduceToNat] at ho13;rw [← Ny132.out] at ho13));have n0_:=Aside0.mk (Kd.R_lower ho13 (bS (by repeat (first|(with_reducible first|exact HB.out|apply bA|apply bN|apply bD)|exact HB.out))));have n1_:=Aside0.mk (bT (by repeat (first|(with_reducible first|exact HB.out|apply bA|apply bN|apply bD)|exact HB.out)) hb);clear HB;have HO134:=n0_;have HB:=n1_;clear n0_ n1_;clear hb ho13));try go_wp2_with (first|((with_reducible refine gate_dst (N:=33) rfl ?_);(try (refine gate_guard (by rfl) ?_;dsimp only));refine Kd.R_lit (Kd.int .i64) _ 3 ?hg (N:=33) ?hd (xs:=([] : List Int)) (inner:=[]) (ok:=fun _ => True) (okp:=fun _ => True) ?hr ?hp (fun _ hk => hk) trivial (Below.refl _ _) (Nat.le_refl _) (by simp) ?_;(case hd => rfl);(case hg => rfl);(case hr => first|(go_simp;done)|(go_simp;rfl));(case hp => exact (Reps.none _ _));intro v133 w12 ho13 hb hg_ hnew_;clear hg_ hnew_;(first|rw [← Ny132.out] at ho13|(simp only [Int.reduceToNat] at ho13;rw [← Ny132.out] at ho13));have n0_:=Aside0.mk (Kd.R_lower ho13 (bS (by repeat (first|(with_reducible first|exact HB.out|apply bA|apply bN|apply bD)|exact HB.out))));have n1_:=Aside0.mk (bT (by repeat (first|(with_reducible first|exact HB.out|apply bA|apply bN|apply bD)|exact HB.out)) hb);clear HB;have HO134:=n0_;have HB:=n1_;clear n0_ n1_;clear hb ho13)))
    go_ret
    exact ⟨_, by first|rfl|(simp [errW_none, errW_some] <;> rfl)|(simp [*, errW_none, errW_some] <;> rfl), by (with_reducible repeat first|apply rA|apply rN|apply rD); exact HO134.out, by repeat (first|(with_reducible first|exact HB.out|apply bA|apply bN|apply bD)|exact HB.out)⟩
   ·replace c11 := Bool.eq_false_iff.mpr c11
    subst c11
    have H1 : ((spec_l6Most.f kj4 l0 l1 a3).bind fun t135 => (if 0 ≤ a2 then (if a2 < (t135.length : Int) then (spec_BestTour.l0 kj4 l0 l1 a2 (rd t135 a2) 0) else (none)) else (none))) = some r := by rw [if_neg (show ¬ (false = true) by decide)] at H; exact H
    clear H
    have H := H1
    clear H1
    replace H := Option.bind_eq_some_iff.mp H
    obtain ⟨t135, A140, H⟩ := H
    replace H : (if 0 ≤ a2 then (if a2 < (t135.length : Int) then (spec_BestTour.l0 kj4 l0 l1 a2 (rd t135 a2) 0) else (none)) else (none)) = some r := H
    have A14 := Aside0.mk A140
    clear A140
    by_cases c15 : 0 ≤ a2
    ·rw [if_pos c15] at H
     have c15b0 : decide (0 ≤ a2) = true := decide_eq_true c15
     clear c15
     by_cases c16 : a2 < (t135.length : Int)
     ·rw [if_pos c16] at H
      have c16b0 : decide (a2 < (t135.length : Int)) = true := decide_eq_true c16
      clear c16
      have H' := Aside0.mk H
      clear H
      go_wp2_with (first|(go_at_call 25;(with_reducible refine (spec_l6Most.calls kj4 _ _ l0 _ _ l1 a3 t135 _ ?side1 ?side2 ?side3 ?side4 A14.out).mono ?_);(case side1 => repeat (first|exact (Kd.C_below HR0.out HB.out)|(with_reducible first|refine cA ?_ _|refine cN ?_ _|refine cD ?_)));(case side2 => exact HC0.out);(case side3 => repeat (first|exact (Kd.C_below HR1.out HB.out)|(with_reducible first|refine cA ?_ _|refine cN ?_ _|refine cD ?_)));(case side4 => exact HC1.out);rintro e w17 ⟨v136,rfl,ho0,hb⟩;have n0_:=Aside0.mk (Kd.R_lower ho0 (bS (by repeat (first|(with_reducible first|exact HB.out|apply bA|apply bN|apply bD)|exact HB.out))));have n1_:=Aside0.mk (bT (by repeat (first|(with_reducible first|exact HB.out|apply bA|apply bN|apply bD)|exact HB.out)) hb);clear HB;have HO137:=n0_;have HB:=n1_;clear n0_ n1_;(try clear hb);(try clear hb2);(try clear hk);(try clear hi);(try clear ho0);obtain ⟨Ao18,co18,eo18⟩:=kS HO137.out;subst eo18;have p138 : 0 ≤ (a2 : Int):=oD (by first|(with_reducible assumption)|assumption);have q138 : a2 < (t135.length : Int):=oD (by first|(with_reducible assumption)|assumption);obtain ⟨ad138,e138,hx138_0⟩:=aI (kR HO137.out).2.2 a2 p138 q138;cases e138;replace p138:=eq_true p138;replace q138:=eq_true q138))
      repeat (go_quiet (first|(go_at_call 25;(with_reducible refine (spec_l6Most.calls kj4 _ _ l0 _ _ l1 a3 t135 _ ?side1 ?side2 ?side3 ?side4 A14.out).mono ?_);(case side1 => repeat (first|exact (Kd.C_below HR0.out HB.out)|(with_reducible first|refine cA ?_ _|refine cN ?_ _|refine cD ?_)));(case side2 => exact HC0.out);(case side3 => repeat (first|exact (Kd.C_below HR1.out HB.out)|(with_reducible first|refine cA ?_ _|refine cN ?_ _|refine cD ?_)));(case side4 => exact HC1.out);rintro e w17 ⟨v136,rfl,ho0,hb⟩;have n0_:=Aside0.mk (Kd.R_lower ho0 (bS (by repeat (first|(with_reducible first|exact HB.out|apply bA|apply bN|apply bD)|exact HB.out))));have n1_:=Aside0.mk (bT (by repeat (first|(with_reducible first|exact HB.out|apply bA|apply bN|apply bD)|exact HB.out)) hb);clear HB;have HO137:=n0_;have HB:=n1_;clear n0_ n1_;(try clear hb);(try clear hb2);(try clear hk);(try clear hi);(try clear ho0);obtain ⟨Ao18,co18,eo18⟩:=kS HO137.out;subst eo18;have p138 : 0 ≤ (a2 : Int):=oD (by first|(with_reducible assumption)|assumption);have q138 : a2 < (t135.length : Int):=oD (by first|(with_reducible assumption)|assumption);obtain ⟨ad138,e138,hx138_0⟩:=aI (kR HO137.out).2.2 a2 p138 q138;cases e138;replace p138:=eq_true p138;replace q138:=eq_true q138));try go_wp2_with (first|(go_at_call 25;(with_reducible refine (spec_l6Most.calls kj4 _ _ l0 _ _ l1 a3 t135 _ ?side1 ?side2 ?side3 ?side4 A14.out).mono ?_);(case side1 => repeat (first|exact (Kd.C_below HR0.out HB.out)|(with_reducible first|refine cA ?_ _|refine cN ?_ _|refine cD ?_)));(case side2 => exact HC0.out);(case side3 => repeat (first|exact (Kd.C_below HR1.out HB.out)|(with_reducible first|refine cA ?_ _|refine cN ?_ _|refine cD ?_)));(case side4 => exact HC1.out);rintro e w17 ⟨v136,rfl,ho0,hb⟩;have n0_:=Aside0.mk (Kd.R_lower ho0 (bS (by repeat (first|(with_reducible first|exact HB.out|apply bA|apply bN|apply bD)|exact HB.out))));have n1_:=Aside0.mk (bT (by repeat (first|(with_reducible first|exact HB.out|apply bA|apply bN|apply bD)|exact HB.out)) hb);clear HB;have HO137:=n0_;have HB:=n1_;clear n0_ n1_;(try clear hb);(try clear hb2);(try clear hk);(try clear hi);(try clear ho0);obtain ⟨Ao18,co18,eo18⟩:=kS HO137.out;subst eo18;have p138 : 0 ≤ (a2 : Int):=oD (by first|(with_reducible assumption)|assumption);have q138 : a2 < (t135.length : Int):=oD (by first|(with_reducible assumption)|assumption);obtain ⟨ad138,e138,hx138_0⟩:=aI (kR HO137.out).2.2 a2 p138 q138;cases e138;replace p138:=eq_true p138;replace q138:=eq_true q138)))
      go_loopg [10] kj4 (fun kq v10 w' => ∃ (x10_2 : Int), v10 = .int .i64 x10_2 ∧ Aside0 (spec_BestTour.l0 kq l0 l1 a2 (rd t135 a2) x10_2 = some r) ∧ Aside0 (kq ≤ kj4) ∧ Aside0 (Below w.heap.size w w'))
      case atStart => exact ⟨(0), (by first|rfl|(simp; done)|(simp [*]; done)), H', ⟨Nat.le_refl _⟩, ⟨by repeat (first|(with_reducible first|exact HB.out|apply bA|apply bN|apply bD)|exact HB.out)⟩⟩
      case round =>
       clear H'
       try clear c1
       try clear p1
       try clear q1
       try clear hx1
       try clear p2
       try clear p6
       try clear c7
       try clear c9
       try clear c10
       try clear c11
       try clear p13
       try clear q13
       try clear hx13
       try clear c15
       try clear c15b0
       try clear c16
       try clear c16b0
       try clear hx138_0
       try clear p138
       try clear p2
       try clear p6
       try clear q138
       obtain ⟨x10_2, rfl, HA, HK2, HB⟩ := hrel
       cases gk with
       | zero => exact absurd HA.out (by simp [spec_BestTour.l0])
       | succ k2 =>
        have H := HA.out
        clear HA
        simp only [spec_BestTour.l0] at H
        replace H := Option.bind_eq_some_iff.mp H
        obtain ⟨t139, A190, H⟩ := H
        replace H : (if 0 ≤ a2 then (if a2 < (t139.length : Int) then (if (rd t139 a2) < (rd t135 a2) then (spec_BestTour.l0 k2 l0 l1 a2 (rd t135 a2) (wrap64 (x10_2 + 1))) else (spec_BestTour.l1 k2 l0 l1 (rd t135 a2) (([a2] : List Int)) x10_2)) else (none)) else (none)) = some r := H
        have A19 := Aside0.mk A190
        clear A190
        by_cases c20 : 0 ≤ a2
        ·rw [if_pos c20] at H
         have c20b0 : decide (0 ≤ a2) = true := decide_eq_true c20
         clear c20
         by_cases c21 : a2 < (t139.length : Int)
         ·rw [if_pos c21] at H
          have c21b0 : decide (a2 < (t139.length : Int)) = true := decide_eq_true c21
          clear c21
          by_cases c22 : (rd t139 a2) < (rd t135 a2)
          ·rw [if_pos c22] at H
           have c22b0 : decide ((rd t139 a2) < (rd t135 a2)) = true := decide_eq_true c22
           clear c22
           have H' := Aside0.mk H
           clear H
           go_wp2_with (first|(go_at_call 25;(with_reducible refine (spec_l6Most.calls k2 _ _ l0 _ _ l1 x10_2 t139 _ ?side1 ?side2 ?side3 ?side4 A19.out).mono ?_);(case side1 => repeat (first|exact (Kd.C_below HR0.out HB.out)|(with_reducible first|refine cA ?_ _|refine cN ?_ _|refine cD ?_)));(case side2 => exact HC0.out);(case side3 => repeat (first|exact (Kd.C_below HR1.out HB.out)|(with_reducible first|refine cA ?_ _|refine cN ?_ _|refine cD ?_)));(case side4 => exact HC1.out);rintro e w23 ⟨v140,rfl,ho0,hb⟩;have n0_:=Aside0.mk (Kd.R_lower ho0 (bS (by repeat (first|(with_reducible first|exact HB.out|apply bA|apply bN|apply bD)|exact HB.out))));have n1_:=Aside0.mk (bT (by repeat (first|(with_reducible first|exact HB.out|apply bA|apply bN|apply bD)|exact HB.out)) hb);clear HB;have HO141:=n0_;have HB:=n1_;clear n0_ n1_;(try clear hb);(try clear hb2);(try clear hk);(try clear hi);(try clear ho0);obtain ⟨Ao24,co24,eo24⟩:=kS HO141.out;subst eo24;have p142 : 0 ≤ (a2 : Int):=oD (by first|(with_reducible assumption)|assumption);have q142 : a2 < (t139.length : Int):=oD (by first|(with_reducible assumption)|assumption);obtain ⟨ad142,e142,hx142_0⟩:=aI (kR HO141.out).2.2 a2 p142 q142;cases e142;replace p142:=eq_true p142;replace q142:=eq_true q142))
           repeat (go_quiet (first|(go_at_call 25;(with_reducible refine (spec_l6Most.calls k2 _ _ l0 _ _ l1 x10_2 t139 _ ?side1 ?side2 ?side3 ?side4 A19.out).mono ?_);(case side1 => repeat (first|exact (Kd.C_below HR0.out HB.out)|(with_reducible first|refine cA ?_ _|refine cN ?_ _|refine cD ?_)));(case side2 => exact HC0.out);(case side3 => repeat (first|exact (Kd.C_below HR1.out HB.out)|(with_reducible first|refine cA ?_ _|refine cN ?_ _|refine cD ?_)));(case side4 => exact HC1.out);rintro e w23 ⟨v140,rfl,ho0,hb⟩;have n0_:=Aside0.mk (Kd.R_lower ho0 (bS (by repeat (first|(with_reducible first|exact HB.out|apply bA|apply bN|apply bD)|exact HB.out))));have n1_:=Aside0.mk (bT (by repeat (first|(with_reducible first|exact HB.out|apply bA|apply bN|apply bD)|exact HB.out)) hb);clear HB;have HO141:=n0_;have HB:=n1_;clear n0_ n1_;(try clear hb);(try clear hb2);(try clear hk);(try clear hi);(try clear ho0);obtain ⟨Ao24,co24,eo24⟩:=kS HO141.out;subst eo24;have p142 : 0 ≤ (a2 : Int):=oD (by first|(with_reducible assumption)|assumption);have q142 : a2 < (t139.length : Int):=oD (by first|(with_reducible assumption)|assumption);obtain ⟨ad142,e142,hx142_0⟩:=aI (kR HO141.out).2.2 a2 p142 q142;cases e142;replace p142:=eq_true p142;replace q142:=eq_true q142));try go_wp2_with (first|(go_at_call 25;(with_reducible refine (spec_l6Most.calls k2 _ _ l0 _ _ l1 x10_2 t139 _ ?side1 ?side2 ?side3 ?side4 A19.out).mono ?_);(case side1 => repeat (first|exact (Kd.C_below HR0.out HB.out)|(with_reducible first|refine cA ?_ _|refine cN ?_ _|refine cD ?_)));(case side2 => exact HC0.out);(case side3 => repeat (first|exact (Kd.C_below HR1.out HB.out)|(with_reducible first|refine cA ?_ _|refine cN ?_ _|refine cD ?_)));(case side4 => exact HC1.out);rintro e w23 ⟨v140,rfl,ho0,hb⟩;have n0_:=Aside0.mk (Kd.R_lower ho0 (bS (by repeat (first|(with_reducible first|exact HB.out|apply bA|apply bN|apply bD)|exact HB.out))));have n1_:=Aside0.mk (bT (by repeat (first|(with_reducible first|exact HB.out|apply bA|apply bN|apply bD)|exact HB.out)) hb);clear HB;have HO141:=n0_;have HB:=n1_;clear n0_ n1_;(try clear hb);(try clear hb2);(try clear hk);(try clear hi);(try clear ho0);obtain ⟨Ao24,co24,eo24⟩:=kS HO141.out;subst eo24;have p142 : 0 ≤ (a2 : Int):=oD (by first|(with_reducible assumption)|assumption);have q142 : a2 < (t139.length : Int):=oD (by first|(with_reducible assumption)|assumption);obtain ⟨ad142,e142,hx142_0⟩:=aI (kR HO141.out).2.2 a2 p142 q142;cases e142;replace p142:=eq_true p142;replace q142:=eq_true q142)))
           go_roundg k2
           case measure => have := HJ4.out; have := HK2.out; omega
           case rel => exact ⟨(wrap64 (x10_2 + 1)), (by first|rfl|(simp; done)|(simp [*]; done)), H', ⟨by have := HJ4.out; have := HK2.out; omega⟩, ⟨by repeat (first|(with_reducible first|exact HB.out|apply bA|apply bN|apply bD)|exact HB.out)⟩⟩
          ·rw [if_neg c22] at H
           have c22b0 : decide ((rd t139 a2) < (rd t135 a2)) = false := decide_eq_false c22
           clear c22
           obtain ⟨y143, hy143⟩ : ∃ y_ : List Int, y_ = (([a2] : List Int)) := ⟨_, rfl⟩
           replace H : (spec_BestTour.l1 k2 l0 l1 (rd t135 a2) y143 x10_2) = some r := by first|(rw [hy143]; with_reducible exact H)|(have H2_ := (Option.bind_some _ _).symm.trans H; rw [hy143]; with_reducible exact H2_)|(have H2_ := (Option.bind_some _ _).symm.trans H; with_reducible exact H2_)|with_reducible exact H|(rw [hy143]; exact H)|exact H
           have Ny143 := Aside0.mk hy143
           clear hy143
           have H' := Aside0.mk H
           clear H
           go_wp2_with (first|(go_at_call 25;(with_reducible refine (spec_l6Most.calls k2 _ _ l0 _ _ l1 x10_2 t139 _ ?side1 ?side2 ?side3 ?side4 A19.out).mono ?_);(case side1 => repeat (first|exact (Kd.C_below HR0.out HB.out)|(with_reducible first|refine cA ?_ _|refine cN ?_ _|refine cD ?_)));(case side2 => exact HC0.out);(case side3 => repeat (first|exact (Kd.C_below HR1.out HB.out)|(with_reducible first|refine cA ?_ _|refine cN ?_ _|refine cD ?_)));(case side4 => exact HC1.out);rintro e w25 ⟨v140,rfl,ho0,hb⟩;have n0_:=Aside0.mk (Kd.R_lower ho0 (bS (by repeat (first|(with_reducible first|exact HB.out|apply bA|apply bN|apply bD)|exact HB.out))));have n1_:=Aside0.mk (bT (by repeat (first|(with_reducible first|exact HB.out|apply bA|apply bN|apply bD)|exact HB.out)) hb);clear HB;have HO141:=n0_;have HB:=n1_;clear n0_ n1_;(try clear hb);(try clear hb2);(try clear hk);(try clear hi);(try clear ho0);obtain ⟨Ao26,co26,eo26⟩:=kS HO141.out;subst eo26;have p142 : 0 ≤ (a2 : Int):=oD (by first|(with_reducible assumption)|assumption);have q142 : a2 < (t139.length : Int):=oD (by first|(with_reducible assumption)|assumption);obtain ⟨ad142,e142,hx142_0⟩:=aI (kR HO141.out).2.2 a2 p142 q142;cases e142;replace p142:=eq_true p142;replace q142:=eq_true q142)|((with_reducible refine gate_dst (N:=53) rfl ?_);(try (refine gate_guard (by rfl) ?_;dsimp only));refine Kd.R_lit (Kd.int .i64) _ 3 ?hg (N:=53) ?hd (xs:=([a2] : List Int)) (inner:=[.int .i64 a2]) (ok:=fun _ => True) (okp:=fun _ => True) ?hr ?hp (fun _ hk => hk) trivial (Below.refl _ _) (Nat.le_refl _) (by simp) ?_;(case hd => rfl);(case hg => rfl);(case hr => first|(go_simp;done)|(go_simp;rfl));(case hp => exact (Reps.one (show Kd.M (Kd.int .i64) _ _ _ a2 [.int .i64 a2] from rfl) (Reps.none _ _)));intro v144 w27 ho28 hb hg_ hnew_;clear hg_ hnew_;(first|rw [← Ny143.out] at ho28|(simp only [Int.reduceToNat] at ho28;rw [← Ny143.out] at ho28));have n0_:=Aside0.mk (kE (by (with_reducible repeat first|apply rA|apply rN|apply rD);exact HO141.out) (Kd.R_base ho28) hb);have n1_:=Aside0.mk (Kd.R_lower (kN ho28 (Kd.R_lt (by (with_reducible repeat first|apply rA|apply rN|apply rD);exact HO141.out))) (bS (by repeat (first|(with_reducible first|exact HB.out|apply bA|apply bN|apply bD)|exact HB.out))));have n2_:=Aside0.mk (bT (by repeat (first|(with_reducible first|exact HB.out|apply bA|apply bN|apply bD)|exact HB.out)) hb);clear HO141;clear HB;have HO141:=n0_;have HO145:=n1_;have HB:=n2_;clear n0_ n1_ n2_;clear hb ho28))
           repeat (go_quiet (first|(go_at_call 25;(with_reducible refine (spec_l6Most.calls k2 _ _ l0 _ _ l1 x10_2 t139 _ ?side1 ?side2 ?side3 ?side4 A19.out).mono ?_);(case side1 => repeat (first|exact (Kd.C_below HR0.out HB.out)|(with_reducible first|refine cA ?_ _|refine cN ?_ _|refine cD ?_)));(case side2 => exact HC0.out);(case side3 => repeat (first|exact (Kd.C_below HR1.out HB.out)|(with_reducible first|refine cA ?_ _|refine cN ?_ _|refine cD ?_)));(case side4 => exact HC1.out);rintro e w25 ⟨v140,rfl,ho0,hb⟩;have n0_:=Aside0.mk (Kd.R_lower ho0 (bS (by repeat (first|(with_reducible first|exact HB.out|apply bA|apply bN|apply bD)|exact HB.out))));have n1_:=Aside0.mk (bT (by repeat (first|(with_reducible first|exact HB.out|apply bA|apply bN|apply bD)|exact HB.out)) hb);clear HB;have HO141:=n0_;have HB:=n1_;clear n0_ n1_;(try clear hb);(try clear hb2);(try clear hk);(try clear hi);(try clear ho0);obtain ⟨Ao26,co26,eo26⟩:=kS HO141.out;subst eo26;have p142 : 0 ≤ (a2 : Int):=oD (by first|(with_reducible assumption)|assumption);have q142 : a2 < (t139.length : Int):=oD (by first|(with_reducible assumption)|assumption);obtain ⟨ad142,e142,hx142_0⟩:=aI (kR HO141.out).2.2 a2 p142 q142;cases e142;replace p142:=eq_true p142;replace q142:=eq_true q142)|((with_reducible refine gate_dst (N:=53) rfl ?_);(try (refine gate_guard (by rfl) ?_;dsimp only));refine Kd.R_lit (Kd.int .i64) _ 3 ?hg (N:=53) ?hd (xs:=([a2] : List Int)) (inner:=[.int .i64 a2]) (ok:=fun _ => True) (okp:=fun _ => True) ?hr ?hp (fun _ hk => hk) trivial (Below.refl _ _) (Nat.le_refl _) (by simp) ?_;(case hd => rfl);(case hg => rfl);(case hr => first|(go_simp;done)|(go_simp;rfl));(case hp => exact (Reps.one (show Kd.M (Kd.int .i64) _ _ _ a2 [.int .i64 a2] from rfl) (Reps.none _ _)));intro v144 w27 ho28 hb hg_ hnew_;clear hg_ hnew_;(first|rw [← Ny143.out] at ho28|(simp only [Int.reduceToNat] at ho28;rw [← Ny143.out] at ho28));have n0_:=Aside0.mk (kE (by (with_reducible repeat first|apply rA|apply rN|apply rD);exact HO141.out) (Kd.R_base ho28) hb);have n1_:=Aside0.mk (Kd.R_lower (kN ho28 (Kd.R_lt (by (with_reducible repeat first|apply rA|apply rN|apply rD);exact HO141.out))) (bS (by repeat (first|(with_reducible first|exact HB.out|apply bA|apply bN|apply bD)|exact HB.out))));have n2_:=Aside0.mk (bT (by repeat (first|(with_reducible first|exact HB.out|apply bA|apply bN|apply bD)|exact HB.out)) hb);clear HO141;clear HB;have HO141:=n0_;have HO145:=n1_;have HB:=n2_;clear n0_ n1_ n2_;clear hb ho28));try go_wp2_with (first|(go_at_call 25;(with_reducible refine (spec_l6Most.calls k2 _ _ l0 _ _ l1 x10_2 t139 _ ?side1 ?side2 ?side3 ?side4 A19.out).mono ?_);(case side1 => repeat (first|exact (Kd.C_below HR0.out HB.out)|(with_reducible first|refine cA ?_ _|refine cN ?_ _|refine cD ?_)));(case side2 => exact HC0.out);(case side3 => repeat (first|exact (Kd.C_below HR1.out HB.out)|(with_reducible first|refine cA ?_ _|refine cN ?_ _|refine cD ?_)));(case side4 => exact HC1.out);rintro e w25 ⟨v140,rfl,ho0,hb⟩;have n0_:=Aside0.mk (Kd.R_lower ho0 (bS (by repeat (first|(with_reducible first|exact HB.out|apply bA|apply bN|apply bD)|exact HB.out))));have n1_:=Aside0.mk (bT (by repeat (first|(with_reducible first|exact HB.out|apply bA|apply bN|apply bD)|exact HB.out)) hb);clear HB;have HO141:=n0_;have HB:=n1_;clear n0_ n1_;(try clear hb);(try clear hb2);(try clear hk);(try clear hi);(try clear ho0);obtain ⟨Ao26,co26,eo26⟩:=kS HO141.out;subst eo26;have p142 : 0 ≤ (a2 : Int):=oD (by first|(with_reducible assumption)|assumption);have q142 : a2 < (t139.length : Int):=oD (by first|(with_reducible assumption)|assumption);obtain ⟨ad142,e142,hx142_0⟩:=aI (kR HO141.out).2.2 a2 p142 q142;cases e142;replace p142:=eq_true p142;replace q142:=eq_true q142)|((with_reducible refine gate_dst (N:=53) rfl ?_);(try (refine gate_guard (by rfl) ?_;dsimp only));refine Kd.R_lit (Kd.int .i64) _ 3 ?hg (N:=53) ?hd (xs:=([a2] : List Int)) (inner:=[.int .i64 a2]) (ok:=fun _ => True) (okp:=fun _ => True) ?hr ?hp (fun _ hk => hk) trivial (Below.refl _ _) (Nat.le_refl _) (by simp) ?_;(case hd => rfl);(case hg => rfl);(case hr => first|(go_simp;done)|(go_simp;rfl));(case hp => exact (Reps.one (show Kd.M (Kd.int .i64) _ _ _ a2 [.int .i64 a2] from rfl) (Reps.none _ _)));intro v144 w27 ho28 hb hg_ hnew_;clear hg_ hnew_;(first|rw [← Ny143.out] at ho28|(simp only [Int.reduceToNat] at ho28;rw [← Ny143.out] at ho28));have n0_:=Aside0.mk (kE (by (with_reducible repeat first|apply rA|apply rN|apply rD);exact HO141.out) (Kd.R_base ho28) hb);have n1_:=Aside0.mk (Kd.R_lower (kN ho28 (Kd.R_lt (by (with_reducible repeat first|apply rA|apply rN|apply rD);exact HO141.out))) (bS (by repeat (first|(with_reducible first|exact HB.out|apply bA|apply bN|apply bD)|exact HB.out))));have n2_:=Aside0.mk (bT (by repeat (first|(with_reducible first|exact HB.out|apply bA|apply bN|apply bD)|exact HB.out)) hb);clear HO141;clear HB;have HO141:=n0_;have HO145:=n1_;have HB:=n2_;clear n0_ n1_ n2_;clear hb ho28)))
           go_loopg [9, 11, 12] k2 (fun kq v9 v11 v12 w' => ∃ (x9_3 : Int) (x11_3 : List Int) (x12_3 : Int), v9 = .int .i64 x9_3 ∧ v12 = .int .i64 x12_3 ∧ Aside0 (spec_BestTour.l1 kq l0 l1 x9_3 x11_3 x12_3 = some r) ∧ Aside0 (kq ≤ k2) ∧ Aside0 (Kd.R (Kd.int .i64) 3 w' w.heap.size (fun _ => True) v11 x11_3) ∧ Aside0 (Below w.heap.size w w'))
           case atStart => exact ⟨((rd t135 a2)), (y143), (x10_2), (by first|rfl|(simp; done)|(simp [*]; done)), (by first|rfl|(simp; done)|(simp [*]; done)), H', ⟨Nat.le_refl _⟩, ⟨by (with_reducible repeat first|apply rA|apply rN|apply rD); exact Kd.R_mono HO145.out (fun _ hk => trivial)⟩, ⟨by repeat (first|(with_reducible first|exact HB.out|apply bA|apply bN|apply bD)|exact HB.out)⟩⟩
           case round =>
            clear H'
            try clear c1
            try clear p1
            try clear q1
            try clear hx1
            try clear c2
            try clear p2
            try clear p6
            try clear c7
            try clear c9
            try clear c10
            try clear c11
            try clear p13
            try clear q13
            try clear hx13
            try clear p14
            try clear q14
            try clear hx14
            try clear c15
            try clear c15b0
            try clear c16
            try clear c16b0
            try clear c20
            try clear c20b0
            try clear c21
            try clear c21b0
            try clear c22
            try clear c22b0
            try clear hx138_0
            try clear hx142_0
            try clear p1
            try clear p13
            try clear p138
            try clear p142
            try clear p2
            try clear p6
            try clear q1
            try clear q13
            try clear q138
            try clear q142
            obtain ⟨x9_3, x11_3, x12_3, rfl, rfl, HA, HK3, HO_11, HB⟩ := hrel
            cases gk with
            | zero => exact absurd HA.out (by simp [spec_BestTour.l1])
            | succ k3 =>
             have H := HA.out
             clear HA
             simp only [spec_BestTour.l1] at H
             by_cases c29 : x12_3 > 0
             ·rw [if_pos c29] at H
              have c29b0 : decide (0 < x12_3) = true := decide_eq_true c29
              clear c29
              replace H := Option.bind_eq_some_iff.mp H
              obtain ⟨t146, A300, H⟩ := H
              replace H : (if 0 ≤ (wrap64 ((x11_3.length : Int) - 1)) then (if (wrap64 ((x11_3.length : Int) - 1)) < (x11_3.length : Int) then (spec_BestTour.l2 k3 l0 l1 x9_3 x11_3 x12_3 t146 (rd x11_3 (wrap64 ((x11_3.length : Int) - 1))) 0) else (none)) else (none)) = some r := H
              have A30 := Aside0.mk A300
              clear A300
              obtain ⟨ji31, hji31⟩ : ∃ j_ : Int, (wrap64 ((x11_3.length : Int) - 1)) = j_ := ⟨_, rfl⟩
              replace H : (if 0 ≤ (ji31) then (if (ji31) < (x11_3.length : Int) then (spec_BestTour.l2 k3 l0 l1 x9_3 x11_3 x12_3 t146 (rd x11_3 (ji31)) 0) else (none)) else (none)) = some r := by first|(rw [hji31] at H; exact H)|(simp only [hji31] at H ⊢; exact H)
              (try rw [hji31] at A30)
              have hji31w : (IntKind.i64.wrap ((x11_3.length : Int) - 1)) = ji31 := (i64_w _).trans hji31
              by_cases c32 : 0 ≤ (ji31)
              ·rw [if_pos c32] at H
               have c32b0 : decide (0 ≤ (ji31)) = true := decide_eq_true c32
               clear c32
               by_cases c33 : (ji31) < (x11_3.length : Int)
               ·rw [if_pos c33] at H
                have c33b0 : decide ((ji31) < (x11_3.length : Int)) = true := decide_eq_true c33
                clear c33
                have H' := Aside0.mk H
                clear H
                go_wp2_with (first|(go_at_call 25;(with_reducible refine (spec_l6Most.calls k3 _ _ l0 _ _ l1 (wrap64 (x12_3 - 1)) t146 _ ?side1 ?side2 ?side3 ?side4 A30.out).mono ?_);(case side1 => repeat (first|exact (Kd.C_below HR0.out HB.out)|(with_reducible first|refine cA ?_ _|refine cN ?_ _|refine cD ?_)));(case side2 => exact HC0.out);(case side3 => repeat (first|exact (Kd.C_below HR1.out HB.out)|(with_reducible first|refine cA ?_ _|refine cN ?_ _|refine cD ?_)));(case side4 => exact HC1.out);rintro e w34 ⟨v147,rfl,ho0,hb⟩;have n0_:=Aside0.mk (kE (by (with_reducible repeat first|apply rA|apply rN|apply rD);exact HO_11.out) (Kd.R_base ho0) hb);have n1_:=Aside0.mk (Kd.R_lower (kN ho0 (Kd.R_lt (by (with_reducible repeat first|apply rA|apply rN|apply rD);exact HO_11.out))) (bS (by repeat (first|(with_reducible first|exact HB.out|apply bA|apply bN|apply bD)|exact HB.out))));have n2_:=Aside0.mk (bT (by repeat (first|(with_reducible first|exact HB.out|apply bA|apply bN|apply bD)|exact HB.out)) hb);clear HO_11;clear HB;have HO_11:=n0_;have HO148:=n1_;have HB:=n2_;clear n0_ n1_ n2_;(try clear hb);(try clear hb2);(try clear hk);(try clear hi);(try clear ho0);obtain ⟨Ao35,co35,eo35⟩:=kS HO_11.out;subst eo35;have p149 : 0 ≤ ((ji31) : Int):=oD (by first|(with_reducible assumption)|assumption);have q149 : (ji31) < (x11_3.length : Int):=oD (by first|(with_reducible assumption)|assumption);obtain ⟨ad149,e149,hx149_0⟩:=aI (kR HO_11.out).2.2 (ji31) p149 q149;cases e149;replace p149:=eq_true p149;replace q149:=eq_true q149))
                repeat (go_quiet (first|(go_at_call 25;(with_reducible refine (spec_l6Most.calls k3 _ _ l0 _ _ l1 (wrap64 (x12_3 - 1)) t146 _ ?side1 ?side2 ?side3 ?side4 A30.out).mono ?_);(case side1 => repeat (first|exact (Kd.C_below HR0.out HB.out)|(with_reducible first|refine cA ?_ _|refine cN ?_ _|refine cD ?_)));(case side2 => exact HC0.out);(case side3 => repeat (first|exact (Kd.C_below HR1.out HB.out)|(with_reducible first|refine cA ?_ _|refine cN ?_ _|refine cD ?_)));(case side4 => exact HC1.out);rintro e w34 ⟨v147,rfl,ho0,hb⟩;have n0_:=Aside0.mk (kE (by (with_reducible repeat first|apply rA|apply rN|apply rD);exact HO_11.out) (Kd.R_base ho0) hb);have n1_:=Aside0.mk (Kd.R_lower (kN ho0 (Kd.R_lt (by (with_reducible repeat first|apply rA|apply rN|apply rD);exact HO_11.out))) (bS (by repeat (first|(with_reducible first|exact HB.out|apply bA|apply bN|apply bD)|exact HB.out))));have n2_:=Aside0.mk (bT (by repeat (first|(with_reducible first|exact HB.out|apply bA|apply bN|apply bD)|exact HB.out)) hb);clear HO_11;clear HB;have HO_11:=n0_;have HO148:=n1_;have HB:=n2_;clear n0_ n1_ n2_;(try clear hb);(try clear hb2);(try clear hk);(try clear hi);(try clear ho0);obtain ⟨Ao35,co35,eo35⟩:=kS HO_11.out;subst eo35;have p149 : 0 ≤ ((ji31) : Int):=oD (by first|(with_reducible assumption)|assumption);have q149 : (ji31) < (x11_3.length : Int):=oD (by first|(with_reducible assumption)|assumption);obtain ⟨ad149,e149,hx149_0⟩:=aI (kR HO_11.out).2.2 (ji31) p149 q149;cases e149;replace p149:=eq_true p149;replace q149:=eq_true q149));try go_wp2_with (first|(go_at_call 25;(with_reducible refine (spec_l6Most.calls k3 _ _ l0 _ _ l1 (wrap64 (x12_3 - 1)) t146 _ ?side1 ?side2 ?side3 ?side4 A30.out).mono ?_);(case side1 => repeat (first|exact (Kd.C_below HR0.out HB.out)|(with_reducible first|refine cA ?_ _|refine cN ?_ _|refine cD ?_)));(case side2 => exact HC0.out);(case side3 => repeat (first|exact (Kd.C_below HR1.out HB.out)|(with_reducible first|refine cA ?_ _|refine cN ?_ _|refine cD ?_)));(case side4 => exact HC1.out);rintro e w34 ⟨v147,rfl,ho0,hb⟩;have n0_:=Aside0.mk (kE (by (with_reducible repeat first|apply rA|apply rN|apply rD);exact HO_11.out) (Kd.R_base ho0) hb);have n1_:=Aside0.mk (Kd.R_lower (kN ho0 (Kd.R_lt (by (with_reducible repeat first|apply rA|apply rN|apply rD);exact HO_11.out))) (bS (by repeat (first|(with_reducible first|exact HB.out|apply bA|apply bN|apply bD)|exact HB.out))));have n2_:=Aside0.mk (bT (by repeat (first|(with_reducible first|exact HB.out|apply bA|apply bN|apply bD)|exact HB.out)) hb);clear HO_11;clear HB;have HO_11:=n0_;have HO148:=n1_;have HB:=n2_;clear n0_ n1_ n2_;(try clear hb);(try clear hb2);(try clear hk);(try clear hi);(try clear ho0);obtain ⟨Ao35,co35,eo35⟩:=kS HO_11.out;subst eo35;have p149 : 0 ≤ ((ji31) : Int):=oD (by first|(with_reducible assumption)|assumption);have q149 : (ji31) < (x11_3.length : Int):=oD (by first|(with_reducible assumption)|assumption);obtain ⟨ad149,e149,hx149_0⟩:=aI (kR HO_11.out).2.2 (ji31) p149 q149;cases e149;replace p149:=eq_true p149;replace q149:=eq_true q149)))
                go_loopg [9, 11, 15] k3 (fun kq v9 v11 v15 w' => ∃ (x9_4 : Int) (x11_4 : List Int) (x15_4 : Int), v9 = .int .i64 x9_4 ∧ v15 = .int .i64 x15_4 ∧ Aside0 (spec_BestTour.l2 kq l0 l1 x9_4 x11_4 x12_3 t146 (rd x11_3 (ji31)) x15_4 = some r) ∧ Aside0 (kq ≤ k3) ∧ Aside0 (Kd.R (Kd.int .i64) 3 w' w.heap.size (fun k_ => some k_ ≠ (v147 : Value).ownBlock) v11 x11_4) ∧ Aside0 (Kd.R (Kd.int .i64) 3 w' w.heap.size (fun k_ => some k_ ≠ (v11 : Value).ownBlock) v147 t146) ∧ Aside0 (Below w.heap.size w w'))
                case atStart => exact ⟨(x9_3), (x11_3), (0), (by first|rfl|(simp; done)|(simp [*]; done)), (by first|rfl|(simp; done)|(simp [*]; done)), H', ⟨Nat.le_refl _⟩, ⟨by (with_reducible repeat first|apply rA|apply rN|apply rD); exact Kd.R_mono HO_11.out (fun _ hk => hk.2)⟩, ⟨by (with_reducible repeat first|apply rA|apply rN|apply rD); exact Kd.R_mono HO148.out (fun _ hk => hk.2)⟩, ⟨by repeat (first|(with_reducible first|exact HB.out|apply bA|apply bN|apply bD)|exact HB.out)⟩⟩
                case round =>
                 clear H'
                 try clear c1
                 try clear p1
                 try clear q1
                 try clear hx1
                 try clear c2
                 try clear p2
                 try clear c3
                 try clear p6
                 try clear c7
                 try clear c9
                 try clear c10
                 try clear c11
                 try clear p13
                 try clear q13
                 try clear hx13
                 try clear p14
                 try clear q14
                 try clear hx14
                 try clear c15
                 try clear c15b0
                 try clear c16
                 try clear c16b0
                 try clear c20
                 try clear c20b0
                 try clear c21
                 try clear c21b0
                 try clear c22
                 try clear c22b0
                 try clear c29
                 try clear c29b0
                 try clear c32
                 try clear c32b0
                 try clear c33
                 try clear c33b0
                 try clear hx138_0
                 try clear hx142_0
                 try clear hx149_0
                 try clear p1
                 try clear p13
                 try clear p138
                 try clear p14
                 try clear p142
                 try clear p149
                 try clear p2
                 try clear p6
                 try clear q1
                 try clear q13
                 try clear q138
                 try clear q14
                 try clear q142
                 try clear q149
                 obtain ⟨x9_4, x11_4, x15_4, rfl, rfl, HA, HK4, HO_11, HO_13, HB⟩ := hrel
                 cases gk with
                 | zero => exact absurd HA.out (by simp [spec_BestTour.l2])
                 | succ k4 =>
                  have H := HA.out
                  clear HA
                  simp only [spec_BestTour.l2] at H
                  by_cases c36 : x15_4 < (l0.length : Int)
                  ·rw [if_pos c36] at H
                   have c36b0 : decide (x15_4 < (l0.length : Int)) = true := decide_eq_true c36
                   clear c36
                   by_cases c37 : 0 ≤ (rd x11_3 (ji31))
                   ·rw [if_pos c37] at H
                    have c37b0 : decide (0 ≤ (rd x11_3 (ji31))) = true := decide_eq_true c37
                    clear c37
                    by_cases c38 : (rd x11_3 (ji31)) < (l0.length : Int)
                    ·rw [if_pos c38] at H
                     have c38b0 : decide ((rd x11_3 (ji31)) < (l0.length : Int)) = true := decide_eq_true c38
                     clear c38
                     by_cases c39 : 0 ≤ x15_4
                     ·rw [if_pos c39] at H
                      have c39b0 := eq_true c39
                      have c39b1 : decide (0 ≤ x15_4) = true := decide_eq_true c39
                      clear c39
                      obtain ⟨ji40, hji40⟩ : ∃ j_ : Int, (shr .i64 (rd l0 (rd x11_3 (ji31))) x15_4) = j_ := ⟨_, rfl⟩
                      replace H : (if (Int.tmod (ji40) 2) = 1 then (if (rd x11_3 (ji31)) < (l1.length : Int) then (if x15_4 < (l1.length : Int) then ((spec_l6Rise.f (rd l1 (rd x11_3 (ji31))) (rd l1 x15_4)).bind fun t153 => (if x15_4 < (t146.length : Int) then (if (wrap64 (t153 + (rd t146 x15_4))) = x9_4 then (if x11_4.length < 17592186044416 then (spec_BestTour.l1 k4 l0 l1 (rd t146 x15_4) (x11_4 ++ [x15_4]) (wrap64 (x12_3 - 1))) else (none)) else (spec_BestTour.l2 k4 l0 l1 x9_4 x11_4 x12_3 t146 (rd x11_3 (ji31)) (wrap64 (x15_4 + 1)))) else (none))) else (none)) else (none)) else (spec_BestTour.l2 k4 l0 l1 x9_4 x11_4 x12_3 t146 (rd x11_3 (ji31)) (wrap64 (x15_4 + 1)))) = some r := by first|(rw [hji40] at H; exact H)|(simp only [hji40] at H ⊢; exact H)
                      have hji40_ : ((rd l0 (rd x11_3 (ji31))) / 2 ^ min x15_4.toNat 64) = ji40 := hji40
                      have hji40z : x15_4 ≤ 64 → ((rd l0 (rd x11_3 (ji31))) / 2 ^ x15_4.toNat) = ji40 := shr_small hji40
                      by_cases c41 : (Int.tmod (ji40) 2) = 1
                      ·rw [if_pos c41] at H
                       have c41b0 : ((Int.tmod (ji40) 2) == 1) = true := beq_iff_eq.mpr c41
                       have c41b1 : ((Int.tmod (ji40) 2) != 1) = false := bne_eq_false_iff_eq.mpr c41
                       clear c41
                       by_cases c42 : (rd x11_3 (ji31)) < (l1.length : Int)
                       ·rw [if_pos c42] at H
                        have c42b0 : decide ((rd x11_3 (ji31)) < (l1.length : Int)) = true := decide_eq_true c42
                        clear c42
                        by_cases c43 : x15_4 < (l1.length : Int)
                        ·rw [if_pos c43] at H
                         have c43b0 : decide (x15_4 < (l1.length : Int)) = true := decide_eq_true c43
                         clear c43
                         replace H := Option.bind_eq_some_iff.mp H
                         obtain ⟨t153, A440, H⟩ := H
                         replace H : (if x15_4 < (t146.length : Int) then (if (wrap64 (t153 + (rd t146 x15_4))) = x9_4 then (if x11_4.length < 17592186044416 then (spec_BestTour.l1 k4 l0 l1 (rd t146 x15_4) (x11_4 ++ [x15_4]) (wrap64 (x12_3 - 1))) else (none)) else (spec_BestTour.l2 k4 l0 l1 x9_4 x11_4 x12_3 t146 (rd x11_3 (ji31)) (wrap64 (x15_4 + 1)))) else (none)) = some r := H
                         have A44 := Aside0.mk A440
                         clear A440
                         by_cases c45 : x15_4 < (t146.length : Int)
                         ·rw [if_pos c45] at H
                          have c45b0 : decide (x15_4 < (t146.length : Int)) = true := decide_eq_true c45
                          clear c45
                          by_cases c46 : (wrap64 (t153 + (rd t146 x15_4))) = x9_4
                          ·rw [if_pos c46] at H
                           have c46b0 : ((wrap64 (t153 + (rd t146 x15_4))) == x9_4) = true := beq_iff_eq.mpr c46
                           (try (have c46b0_w := c46b0; rw [← i64_w] at c46b0_w))
                           have c46b1 : ((wrap64 (t153 + (rd t146 x15_4))) != x9_4) = false := bne_eq_false_iff_eq.mpr c46
                           (try (have c46b1_w := c46b1; rw [← i64_w] at c46b1_w))
                           clear c46
                           by_cases c47 : x11_4.length < 17592186044416
                           ·rw [if_pos c47] at H
                            have LMc47 := Aside0.mk c47
                            clear c47
                            obtain ⟨y156, hy156⟩ : ∃ y_ : List Int, y_ = (x11_4 ++ [x15_4]) := ⟨_, rfl⟩
                            replace H : (spec_BestTour.l1 k4 l0 l1 (rd t146 x15_4) y156 (wrap64 (x12_3 - 1))) = some r := by first|(rw [hy156]; with_reducible exact H)|(have H2_ := (Option.bind_some _ _).symm.trans H; rw [hy156]; with_reducible exact H2_)|(have H2_ := (Option.bind_some _ _).symm.trans H; with_reducible exact H2_)|with_reducible exact H|(rw [hy156]; exact H)|exact H
                            have Ny156 := Aside0.mk hy156
                            clear hy156
                            have H' := Aside0.mk H
                            clear H
                            have p150 : 0 ≤ ((rd x11_3 (ji31)) : Int) := oD (by first|(with_reducible assumption)|assumption)
                            have q150 : (rd x11_3 (ji31)) < (l0.length : Int) := oD (by first|(with_reducible assumption)|assumption)
                            obtain ⟨ad150, e150, hx150_0⟩ := aI HR0.out (rd x11_3 (ji31)) p150 q150
                            cases e150
                            replace hx150_0 := (HB.out.cell (World.block_lt_of_cell? w _ hx150_0)).trans hx150_0
                            replace p150 := eq_true p150
                            replace q150 := eq_true q150
                            have p151 : 0 ≤ ((rd x11_3 (ji31)) : Int) := oD (by first|(with_reducible assumption)|assumption)
                            have q151 : (rd x11_3 (ji31)) < (l1.length : Int) := oD (by first|(with_reducible assumption)|assumption)
                            obtain ⟨ad151, e151, hx151_0⟩ := aI HR1.out (rd x11_3 (ji31)) p151 q151
                            cases e151
                            replace hx151_0 := (HB.out.cell (World.block_lt_of_cell? w _ hx151_0)).trans hx151_0
                            replace p151 := eq_true p151
                            replace q151 := eq_true q151
                            have p152 : 0 ≤ (x15_4 : Int) := oD (by first|(with_reducible assumption)|assumption)
                            have q152 : x15_4 < (l1.length : Int) := oD (by first|(with_reducible assumption)|assumption)
                            obtain ⟨ad152, e152, hx152_0⟩ := aI HR1.out x15_4 p152 q152
                            obtain rfl : ad151 = ad152 := (by injection e152)
                            replace hx152_0 := (HB.out.cell (World.block_lt_of_cell? w _ hx152_0)).trans hx152_0
                            replace p152 := eq_true p152
                            replace q152 := eq_true q152
                            go_wp2_with (first|(go_at_call 26;(with_reducible refine (spec_l6Rise.calls (rd l1 (rd x11_3 (ji31))) (rd l1 x15_4) t153 _ A44.out).mono ?_);rintro e w' ⟨rfl,⟨nd,rfl⟩⟩;(try first|exact ⟨rfl,_,dD _ _ _⟩|exact ⟨rfl,_,Eq.trans (dD _ _ _) (congrArg (World.drewN _) (nA _ _ _))⟩);obtain ⟨Ao48,co48,eo48⟩:=kS HO_13.out;subst eo48;have p154 : 0 ≤ (x15_4 : Int):=oD (by first|(with_reducible assumption)|assumption);have q154 : x15_4 < (t146.length : Int):=oD (by first|(with_reducible assumption)|assumption);obtain ⟨ad154,e154,hx154_0⟩:=aI (kR HO_13.out).2.2 x15_4 p154 q154;cases e154;replace p154:=eq_true p154;replace q154:=eq_true q154;have p155 : 0 ≤ (x15_4 : Int):=oD (by first|(with_reducible assumption)|assumption);have q155 : x15_4 < (t146.length : Int):=oD (by first|(with_reducible assumption)|assumption);obtain ⟨ad155,e155,hx155_0⟩:=aI (kR HO_13.out).2.2 x15_4 p155 q155;obtain rfl : ad154 = ad155:=(by injection e155);replace p155:=eq_true p155;replace q155:=eq_true q155)|((with_reducible refine gate_builtin (b:=.append) (xs:=#[.tmp 106,.tmp 108]) rfl ?_);(try (refine gate_guard (by rfl) ?_;dsimp only));at_builtin;refine Kd.R_append (Kd.int .i64) (w0:=w) w.heap.size rfl (.tmp 106) (.tmp 108) 22 3 (.int .i64 0) 8 rfl Try.underlying22 info3 rfl (by decide) (by omega) u11 x11_4 x15_4 [.int .i64 x15_4] (fun k_ => some k_ ≠ (.slice (some ad154) t146.length co48 : Value).ownBlock) (fun _ => False) rfl rfl ?aP (fun _ hk => hk.elim) ?aF ?aO ?aB ?aS ?aL ?_;(case aP => exact rfl);(case aB => exact (by repeat (first|(with_reducible first|exact HB.out|apply bA|apply bN|apply bD)|exact HB.out)));(case aF => exact (fun k_ hk => Kd.fresh' (Kd.R_lt (by (with_reducible repeat first|apply rA|apply rN|apply rD);exact HO_13.out)) k_ hk));(case aO => exact (by (with_reducible repeat first|apply rA|apply rN|apply rD);exact HO_11.out));(case aS => exact (bS (by repeat (first|(with_reducible first|exact HB.out|apply bA|apply bN|apply bD)|exact HB.out))));(case aL => have:=LMc47.out;omega);intro v157 w49 ho hb hg hat;rw [← Ny156.out] at ho;have n0_:=Aside0.mk (Kd.R_after (ok:=(fun _ => True)) (by (with_reducible repeat first|apply rA|apply rN|apply rD);exact Kd.R_mono HO_13.out (fun _ hk => ⟨trivial,hk⟩)) hg hat);have n1_:=Aside0.mk (hb);have n2_:=Aside0.mk (ho);clear HO_13;clear HB;clear HO_11;have HO_13:=n0_;have HB:=n1_;have HO158:=n2_;clear n0_ n1_ n2_;clear ho hb hg hat))
                            repeat (go_quiet (first|(go_at_call 26;(with_reducible refine (spec_l6Rise.calls (rd l1 (rd x11_3 (ji31))) (rd l1 x15_4) t153 _ A44.out).mono ?_);rintro e w' ⟨rfl,⟨nd,rfl⟩⟩;(try first|exact ⟨rfl,_,dD _ _ _⟩|exact ⟨rfl,_,Eq.trans (dD _ _ _) (congrArg (World.drewN _) (nA _ _ _))⟩);obtain ⟨Ao48,co48,eo48⟩:=kS HO_13.out;subst eo48;have p154 : 0 ≤ (x15_4 : Int):=oD (by first|(with_reducible assumption)|assumption);have q154 : x15_4 < (t146.length : Int):=oD (by first|(with_reducible assumption)|assumption);obtain ⟨ad154,e154,hx154_0⟩:=aI (kR HO_13.out).2.2 x15_4 p154 q154;cases e154;replace p154:=eq_true p154;replace q154:=eq_true q154;have p155 : 0 ≤ (x15_4 : Int):=oD (by first|(with_reducible assumption)|assumption);have q155 : x15_4 < (t146.length : Int):=oD (by first|(with_reducible assumption)|assumption);obtain ⟨ad155,e155,hx155_0⟩:=aI (kR HO_13.out).2.2 x15_4 p155 q155;obtain rfl : ad154 = ad155:=(by injection e155);replace p155:=eq_true p155;replace q155:=eq_true q155)|((with_reducible refine gate_builtin (b:=.append) (xs:=#[.tmp 106,.tmp 108]) rfl ?_);(try (refine gate_guard (by rfl) ?_;dsimp only));at_builtin;refine Kd.R_append (Kd.int .i64) (w0:=w) w.heap.size rfl (.tmp 106) (.tmp 108) 22 3 (.int .i64 0) 8 rfl Try.underlying22 info3 rfl (by decide) (by omega) u11 x11_4 x15_4 [.int .i64 x15_4] (fun k_ => some k_ ≠ (.slice (some ad154) t146.length co48 : Value).ownBlock) (fun _ => False) rfl rfl ?aP (fun _ hk => hk.elim) ?aF ?aO ?aB ?aS ?aL ?_;(case aP => exact rfl);(case aB => exact (by repeat (first|(with_reducible first|exact HB.out|apply bA|apply bN|apply bD)|exact HB.out)));(case aF => exact (fun k_ hk => Kd.fresh' (Kd.R_lt (by (with_reducible repeat first|apply rA|apply rN|apply rD);exact HO_13.out)) k_ hk));(case aO => exact (by (with_reducible repeat first|apply rA|apply rN|apply rD);exact HO_11.out));(case aS => exact (bS (by repeat (first|(with_reducible first|exact HB.out|apply bA|apply bN|apply bD)|exact HB.out))));(case aL => have:=LMc47.out;omega);intro v157 w49 ho hb hg hat;rw [← Ny156.out] at ho;have n0_:=Aside0.mk (Kd.R_after (ok:=(fun _ => True)) (by (with_reducible repeat first|apply rA|apply rN|apply rD);exact Kd.R_mono HO_13.out (fun _ hk => ⟨trivial,hk⟩)) hg hat);have n1_:=Aside0.mk (hb);have n2_:=Aside0.mk (ho);clear HO_13;clear HB;clear HO_11;have HO_13:=n0_;have HB:=n1_;have HO158:=n2_;clear n0_ n1_ n2_;clear ho hb hg hat));try go_wp2_with (first|(go_at_call 26;(with_reducible refine (spec_l6Rise.calls (rd l1 (rd x11_3 (ji31))) (rd l1 x15_4) t153 _ A44.out).mono ?_);rintro e w' ⟨rfl,⟨nd,rfl⟩⟩;(try first|exact ⟨rfl,_,dD _ _ _⟩|exact ⟨rfl,_,Eq.trans (dD _ _ _) (congrArg (World.drewN _) (nA _ _ _))⟩);obtain ⟨Ao48,co48,eo48⟩:=kS HO_13.out;subst eo48;have p154 : 0 ≤ (x15_4 : Int):=oD (by first|(with_reducible assumption)|assumption);have q154 : x15_4 < (t146.length : Int):=oD (by first|(with_reducible assumption)|assumption);obtain ⟨ad154,e154,hx154_0⟩:=aI (kR HO_13.out).2.2 x15_4 p154 q154;cases e154;replace p154:=eq_true p154;replace q154:=eq_true q154;have p155 : 0 ≤ (x15_4 : Int):=oD (by first|(with_reducible assumption)|assumption);have q155 : x15_4 < (t146.length : Int):=oD (by first|(with_reducible assumption)|assumption);obtain ⟨ad155,e155,hx155_0⟩:=aI (kR HO_13.out).2.2 x15_4 p155 q155;obtain rfl : ad154 = ad155:=(by injection e155);replace p155:=eq_true p155;replace q155:=eq_true q155)|((with_reducible refine gate_builtin (b:=.append) (xs:=#[.tmp 106,.tmp 108]) rfl ?_);(try (refine gate_guard (by rfl) ?_;dsimp only));at_builtin;refine Kd.R_append (Kd.int .i64) (w0:=w) w.heap.size rfl (.tmp 106) (.tmp 108) 22 3 (.int .i64 0) 8 rfl Try.underlying22 info3 rfl (by decide) (by omega) u11 x11_4 x15_4 [.int .i64 x15_4] (fun k_ => some k_ ≠ (.slice (some ad154) t146.length co48 : Value).ownBlock) (fun _ => False) rfl rfl ?aP (fun _ hk => hk.elim) ?aF ?aO ?aB ?aS ?aL ?_;(case aP => exact rfl);(case aB => exact (by repeat (first|(with_reducible first|exact HB.out|apply bA|apply bN|apply bD)|exact HB.out)));(case aF => exact (fun k_ hk => Kd.fresh' (Kd.R_lt (by (with_reducible repeat first|apply rA|apply rN|apply rD);exact HO_13.out)) k_ hk));(case aO => exact (by (with_reducible repeat first|apply rA|apply rN|apply rD);exact HO_11.out));(case aS => exact (bS (by repeat (first|(with_reducible first|exact HB.out|apply bA|apply bN|apply bD)|exact HB.out))));(case aL => have:=LMc47.out;omega);intro v157 w49 ho hb hg hat;rw [← Ny156.out] at ho;have n0_:=Aside0.mk (Kd.R_after (ok:=(fun _ => True)) (by (with_reducible repeat first|apply rA|apply rN|apply rD);exact Kd.R_mono HO_13.out (fun _ hk => ⟨trivial,hk⟩)) hg hat);have n1_:=Aside0.mk (hb);have n2_:=Aside0.mk (ho);clear HO_13;clear HB;clear HO_11;have HO_13:=n0_;have HB:=n1_;have HO158:=n2_;clear n0_ n1_ n2_;clear ho hb hg hat)))
                            go_roundg k4
                            case measure => have := HJ4.out; have := HK2.out; have := HK3.out; have := HK4.out; omega
                            case rel => exact ⟨(rd t146 x15_4), (y156), (wrap64 (x12_3 - 1)), (by first|rfl|(simp; done)|(simp [*]; done)), (by first|rfl|(simp; done)|(simp [*]; done)), H', ⟨by have := HJ4.out; have := HK2.out; have := HK3.out; have := HK4.out; omega⟩, ⟨by (with_reducible repeat first|apply rA|apply rN|apply rD); exact Kd.R_mono HO158.out (fun _ hk => trivial)⟩, ⟨by repeat (first|(with_reducible first|exact HB.out|apply bA|apply bN|apply bD)|exact HB.out)⟩⟩
                           ·rw [if_neg c47] at H
                            exact absurd H (by simp)
                          ·rw [if_neg c46] at H
                           have c46b0 : ((wrap64 (t153 + (rd t146 x15_4))) == x9_4) = false := beq_eq_false_iff_ne.mpr c46
                           (try (have c46b0_w := c46b0; rw [← i64_w] at c46b0_w))
                           have c46b1 : ((wrap64 (t153 + (rd t146 x15_4))) != x9_4) = true := bne_iff_ne.mpr c46
                           (try (have c46b1_w := c46b1; rw [← i64_w] at c46b1_w))
                           have H' := Aside0.mk H
                           clear H
                           have p150 : 0 ≤ ((rd x11_3 (ji31)) : Int) := oD (by first|(with_reducible assumption)|assumption)
                           have q150 : (rd x11_3 (ji31)) < (l0.length : Int) := oD (by first|(with_reducible assumption)|assumption)
                           obtain ⟨ad150, e150, hx150_0⟩ := aI HR0.out (rd x11_3 (ji31)) p150 q150
                           cases e150
                           replace hx150_0 := (HB.out.cell (World.block_lt_of_cell? w _ hx150_0)).trans hx150_0
                           replace p150 := eq_true p150
                           replace q150 := eq_true q150
                           have p151 : 0 ≤ ((rd x11_3 (ji31)) : Int) := oD (by first|(with_reducible assumption)|assumption)
                           have q151 : (rd x11_3 (ji31)) < (l1.length : Int) := oD (by first|(with_reducible assumption)|assumption)
                           obtain ⟨ad151, e151, hx151_0⟩ := aI HR1.out (rd x11_3 (ji31)) p151 q151
                           cases e151
                           replace hx151_0 := (HB.out.cell (World.block_lt_of_cell? w _ hx151_0)).trans hx151_0
                           replace p151 := eq_true p151
                           replace q151 := eq_true q151
                           have p152 : 0 ≤ (x15_4 : Int) := oD (by first|(with_reducible assumption)|assumption)
                           have q152 : x15_4 < (l1.length : Int) := oD (by first|(with_reducible assumption)|assumption)
                           obtain ⟨ad152, e152, hx152_0⟩ := aI HR1.out x15_4 p152 q152
                           obtain rfl : ad151 = ad152 := (by injection e152)
                           replace hx152_0 := (HB.out.cell (World.block_lt_of_cell? w _ hx152_0)).trans hx152_0
                           replace p152 := eq_true p152
                           replace q152 := eq_true q152
                           go_wp2_with (first|(go_at_call 26;(with_reducible refine (spec_l6Rise.calls (rd l1 (rd x11_3 (ji31))) (rd l1 x15_4) t153 _ A44.out).mono ?_);rintro e w' ⟨rfl,⟨nd,rfl⟩⟩;(try first|exact ⟨rfl,_,dD _ _ _⟩|exact ⟨rfl,_,Eq.trans (dD _ _ _) (congrArg (World.drewN _) (nA _ _ _))⟩);obtain ⟨Ao50,co50,eo50⟩:=kS HO_13.out;subst eo50;have p154 : 0 ≤ (x15_4 : Int):=oD (by first|(with_reducible assumption)|assumption);have q154 : x15_4 < (t146.length : Int):=oD (by first|(with_reducible assumption)|assumption);obtain ⟨ad154,e154,hx154_0⟩:=aI (kR HO_13.out).2.2 x15_4 p154 q154;cases e154;replace p154:=eq_true p154;replace q154:=eq_true q154))
                           repeat (go_quiet (first|(go_at_call 26;(with_reducible refine (spec_l6Rise.calls (rd l1 (rd x11_3 (ji31))) (rd l1 x15_4) t153 _ A44.out).mono ?_);rintro e w' ⟨rfl,⟨nd,rfl⟩⟩;(try first|exact ⟨rfl,_,dD _ _ _⟩|exact ⟨rfl,_,Eq.trans (dD _ _ _) (congrArg (World.drewN _) (nA _ _ _))⟩);obtain ⟨Ao50,co50,eo50⟩:=kS HO_13.out;subst eo50;have p154 : 0 ≤ (x15_4 : Int):=oD (by first|(with_reducible assumption)|assumption);have q154 : x15_4 < (t146.length : Int):=oD (by first|(with_reducible assumption)|assumption);obtain ⟨ad154,e154,hx154_0⟩:=aI (kR HO_13.out).2.2 x15_4 p154 q154;cases e154;replace p154:=eq_true p154;replace q154:=eq_true q154));try go_wp2_with (first|(go_at_call 26;(with_reducible refine (spec_l6Rise.calls (rd l1 (rd x11_3 (ji31))) (rd l1 x15_4) t153 _ A44.out).mono ?_);rintro e w' ⟨rfl,⟨nd,rfl⟩⟩;(try first|exact ⟨rfl,_,dD _ _ _⟩|exact ⟨rfl,_,Eq.trans (dD _ _ _) (congrArg (World.drewN _) (nA _ _ _))⟩);obtain ⟨Ao50,co50,eo50⟩:=kS HO_13.out;subst eo50;have p154 : 0 ≤ (x15_4 : Int):=oD (by first|(with_reducible assumption)|assumption);have q154 : x15_4 < (t146.length : Int):=oD (by first|(with_reducible assumption)|assumption);obtain ⟨ad154,e154,hx154_0⟩:=aI (kR HO_13.out).2.2 x15_4 p154 q154;cases e154;replace p154:=eq_true p154;replace q154:=eq_true q154)))
                           go_roundg k4
                           case measure => have := HJ4.out; have := HK2.out; have := HK3.out; have := HK4.out; omega
                           case rel => exact ⟨(x9_4), (x11_4), (wrap64 (x15_4 + 1)), (by first|rfl|(simp; done)|(simp [*]; done)), (by first|rfl|(simp; done)|(simp [*]; done)), H', ⟨by have := HJ4.out; have := HK2.out; have := HK3.out; have := HK4.out; omega⟩, ⟨by (with_reducible repeat first|apply rA|apply rN|apply rD); exact HO_11.out⟩, ⟨by (with_reducible repeat first|apply rA|apply rN|apply rD); exact HO_13.out⟩, ⟨by repeat (first|(with_reducible first|exact HB.out|apply bA|apply bN|apply bD)|exact HB.out)⟩⟩
                         ·rw [if_neg c45] at H
                          exact absurd H (by simp)
                        ·rw [if_neg c43] at H
                         exact absurd H (by simp)
                       ·rw [if_neg c42] at H
                        exact absurd H (by simp)
                      ·rw [if_neg c41] at H
                       have c41b0 : ((Int.tmod (ji40) 2) == 1) = false := beq_eq_false_iff_ne.mpr c41
                       have c41b1 : ((Int.tmod (ji40) 2) != 1) = true := bne_iff_ne.mpr c41
                       have H' := Aside0.mk H
                       clear H
                       have p150 : 0 ≤ ((rd x11_3 (ji31)) : Int) := oD (by first|(with_reducible assumption)|assumption)
                       have q150 : (rd x11_3 (ji31)) < (l0.length : Int) := oD (by first|(with_reducible assumption)|assumption)
                       obtain ⟨ad150, e150, hx150_0⟩ := aI HR0.out (rd x11_3 (ji31)) p150 q150
                       cases e150
                       replace hx150_0 := (HB.out.cell (World.block_lt_of_cell? w _ hx150_0)).trans hx150_0
                       replace p150 := eq_true p150
                       replace q150 := eq_true q150
                       go_wp2
                       repeat (go_quiet (fail);try go_wp2)
                       go_roundg k4
                       case measure => have := HJ4.out; have := HK2.out; have := HK3.out; have := HK4.out; omega
                       case rel => exact ⟨(x9_4), (x11_4), (wrap64 (x15_4 + 1)), (by first|rfl|(simp; done)|(simp [*]; done)), (by first|rfl|(simp; done)|(simp [*]; done)), H', ⟨by have := HJ4.out; have := HK2.out; have := HK3.out; have := HK4.out; omega⟩, ⟨by (with_reducible repeat first|apply rA|apply rN|apply rD); exact HO_11.out⟩, ⟨by (with_reducible repeat first|apply rA|apply rN|apply rD); exact HO_13.out⟩, ⟨by repeat (first|(with_reducible first|exact HB.out|apply bA|apply bN|apply bD)|exact HB.out)⟩⟩
                     ·rw [if_neg c39] at H
                      exact absurd H (by simp)
                    ·rw [if_neg c38] at H
                     exact absurd H (by simp)
                   ·rw [if_neg c37] at H
                    exact absurd H (by simp)
                  ·rw [if_neg c36] at H
                   have c36b0 : decide (x15_4 < (l0.length : Int)) = false := decide_eq_false c36
                   clear c36
                   have H' := Aside0.mk H
                   clear H
                   go_wp2
                   repeat (go_quiet (fail);try go_wp2)
                   go_roundg k4
                   case measure => have := HJ4.out; have := HK2.out; have := HK3.out; have := HK4.out; omega
                   case rel => exact ⟨(x9_4), (x11_4), (wrap64 (x12_3 - 1)), (by first|rfl|(simp; done)|(simp [*]; done)), (by first|rfl|(simp; done)|(simp [*]; done)), H', ⟨by have := HJ4.out; have := HK2.out; have := HK3.out; have := HK4.out; omega⟩, ⟨by (with_reducible repeat first|apply rA|apply rN|apply rD); exact Kd.R_mono HO_11.out (fun _ hk => trivial)⟩, ⟨by repeat (first|(with_reducible first|exact HB.out|apply bA|apply bN|apply bD)|exact HB.out)⟩⟩
               ·rw [if_neg c33] at H
                exact absurd H (by simp)
              ·rw [if_neg c32] at H
               exact absurd H (by simp)
             ·rw [if_neg c29] at H
              have c29b0 : decide (0 < x12_3) = false := decide_eq_false c29
              clear c29
              obtain rfl := Option.some.inj H
              go_wp2
              repeat (go_quiet (fail);try go_wp2)
              go_ret
              exact ⟨_, by first|rfl|(simp [errW_none, errW_some] <;> rfl)|(simp [*, errW_none, errW_some] <;> rfl), by (with_reducible repeat first|apply rA|apply rN|apply rD); exact HO_11.out, by repeat (first|(with_reducible first|exact HB.out|apply bA|apply bN|apply bD)|exact HB.out)⟩
         ·rw [if_neg c21] at H
          exact absurd H (by simp)
        ·rw [if_neg c20] at H
         exact absurd H (by simp)
     ·rw [if_neg c16] at H
      exact absurd H (by simp)
    ·rw [if_neg c15] at H
     exact absurd H (by simp)

end Go.Proofs.Ytkofidpgbmajdaa.PFnBestTour
