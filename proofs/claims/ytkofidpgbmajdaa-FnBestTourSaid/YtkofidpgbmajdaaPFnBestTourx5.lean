-- Written by a program of this session (the kit's print, changed).
import Derived.Test.YtkofidpgbmajdaaSq
import Derived.Test.YtkofidpgbmajdaaPFnBestTourx0
import Derived.Test.YtkofidpgbmajdaaPFnBestTourx4
namespace Go.Proofs.Ytkofidpgbmajdaa.PFnBestTour
open Go.RowKit Go.Proofs.YtkofidpgbmajdaaW.PrintWords Go.Proofs.YtkofidpgbmajdaaW.PrintLast Go.Proofs.YtkofidpgbmajdaaW.PrintMore
attribute [local go_sem] max2_int min2_int max_two min_two max_three min_three max_four min_four   -- for this text's walks alone
set_option linter.unusedVariables false
set_option linter.unusedSimpArgs false

/-! ### impl_BestTour: function 11 -/
mutual
def impl_BestTour.j0 : Nat → List Int → List Int → Int → Int → Bool → Option (List Int)
 | 0, _, _, _, _, _ => none
 | k + 1, x0, x1, x2, x3, x40 => if x40 = true then (some ([] : List Int)) else (if 0 ≤ (x0.length : Int) then (if ((x0.length : Int) : Int).toNat ≤ 35184372088832 then (impl_BestTour.l0 k x0 x1 x2 x3 (([(List.replicate ((x0.length : Int) : Int).toNat 0)] : List (List Int))) 0 1) else (none)) else (none))
def impl_BestTour.l0 : Nat → List Int → List Int → Int → Int → List (List Int) → Int → Int → Option (List Int)
 | 0, _, _, _, _, _, _, _ => none
 | k + 1, x0, x1, x2, x3, x9, x10, x11 => if x11 ≤ x3 then (if 0 ≤ (x0.length : Int) then (if ((x0.length : Int) : Int).toNat ≤ 35184372088832 then (impl_BestTour.l1 k x0 x1 x2 x3 x9 x10 x11 (List.replicate ((x0.length : Int) : Int).toNat 0) (x0.length : Int) 0) else (none)) else (none)) else (impl_BestTour.l3 k x0 x1 x9 (([x2] : List Int)) x10)
def impl_BestTour.l1 : Nat → List Int → List Int → Int → Int → List (List Int) → Int → Int → List Int → Int → Int → Option (List Int)
 | 0, _, _, _, _, _, _, _, _, _, _ => none
 | k + 1, x0, x1, x2, x3, x9, x10, x11, x12, x54, x55 => if x55 < x54 then (if 0 ≤ x55 then (if x55 < (x12.length : Int) then (impl_BestTour.l2 k x0 x1 x2 x3 x9 x10 x11 (x12.set (x55 : Int).toNat (-1000)) x55 x54 x55 (x0.length : Int) 0) else (none)) else (none)) else (if x9.length < 5864062014805 then ((some (x9 ++ [x12] : List (List Int))).bind fun y176 => (if 0 ≤ x2 then (if x2 < (x12.length : Int) then (if 0 ≤ x10 then (if x10 < (y176.length : Int) then (if x2 < ((rd_L1 y176 x10).length : Int) then (if (rd x12 x2) > (rd (rd_L1 y176 x10) x2) then (impl_BestTour.l0 k x0 x1 x2 x3 y176 x11 (wrap64 (x11 + 1))) else (impl_BestTour.l0 k x0 x1 x2 x3 y176 x10 (wrap64 (x11 + 1)))) else (none)) else (none)) else (none)) else (none)) else (none))) else (none))
def impl_BestTour.l2 : Nat → List Int → List Int → Int → Int → List (List Int) → Int → Int → List Int → Int → Int → Int → Int → Int → Option (List Int)
 | 0, _, _, _, _, _, _, _, _, _, _, _, _, _ => none
 | k + 1, x0, x1, x2, x3, x9, x10, x11, x12, x13, x54, x55, x62, x63 => if x63 < x62 then (if 0 ≤ x13 then (if x13 < (x0.length : Int) then (if 0 ≤ x63 then (if (Go.bits .and .i64 (shr .i64 (rd x0 x13) x63) 1) = 1 then (if x13 < (x12.length : Int) then ((impl_rise.f x1 x13 x63).bind fun t185 => (if 0 ≤ (wrap64 (x11 - 1)) then (if (wrap64 (x11 - 1)) < (x9.length : Int) then (if x63 < ((rd_L1 x9 (wrap64 (x11 - 1))).length : Int) then (impl_BestTour.l2 k x0 x1 x2 x3 x9 x10 x11 (x12.set (x13 : Int).toNat (mx (rd x12 x13) (wrap64 (t185 + (rd (rd_L1 x9 (wrap64 (x11 - 1))) x63))))) x13 x54 x55 x62 (wrap64 (x63 + 1))) else (none)) else (none)) else (none))) else (none)) else (impl_BestTour.l2 k x0 x1 x2 x3 x9 x10 x11 x12 x13 x54 x55 x62 (wrap64 (x63 + 1)))) else (none)) else (none)) else (none)) else (impl_BestTour.l1 k x0 x1 x2 x3 x9 x10 x11 x12 x54 (wrap64 (x55 + 1)))
def impl_BestTour.l3 : Nat → List Int → List Int → List (List Int) → List Int → Int → Option (List Int)
 | 0, _, _, _, _, _ => none
 | k + 1, x0, x1, x9, x15, x16 => if x16 > 0 then (if 0 ≤ (wrap64 ((x15.length : Int) - 1)) then (if (wrap64 ((x15.length : Int) - 1)) < (x15.length : Int) then (impl_BestTour.l4 k x0 x1 x9 x15 x16 (rd x15 (wrap64 ((x15.length : Int) - 1))) (x0.length : Int) 0) else (none)) else (none)) else (some x15)
def impl_BestTour.l4 : Nat → List Int → List Int → List (List Int) → List Int → Int → Int → Int → Int → Option (List Int)
 | 0, _, _, _, _, _, _, _, _ => none
 | k + 1, x0, x1, x9, x15, x16, x17, x128, x129 => if x129 < x128 then (if 0 ≤ x17 then (if x17 < (x0.length : Int) then (if 0 ≤ x129 then (if (Go.bits .and .i64 (shr .i64 (rd x0 x17) x129) 1) = 1 then ((impl_rise.f x1 x17 x129).bind fun t194 => (if 0 ≤ (wrap64 (x16 - 1)) then (if (wrap64 (x16 - 1)) < (x9.length : Int) then (if x129 < ((rd_L1 x9 (wrap64 (x16 - 1))).length : Int) then (if 0 ≤ x16 then (if x16 < (x9.length : Int) then (if x17 < ((rd_L1 x9 x16).length : Int) then (if (wrap64 (t194 + (rd (rd_L1 x9 (wrap64 (x16 - 1))) x129))) = (rd (rd_L1 x9 x16) x17) then (if x15.length < 17592186044416 then (impl_BestTour.l3 k x0 x1 x9 (x15 ++ [x129]) (wrap64 (x16 - 1))) else (none)) else (impl_BestTour.l4 k x0 x1 x9 x15 x16 x17 x128 (wrap64 (x129 + 1)))) else (none)) else (none)) else (none)) else (none)) else (none)) else (none))) else (impl_BestTour.l4 k x0 x1 x9 x15 x16 x17 x128 (wrap64 (x129 + 1)))) else (none)) else (none)) else (none)) else (impl_BestTour.l3 k x0 x1 x9 x15 (wrap64 (x16 - 1)))
end
def impl_BestTour.f (k : Nat) (l0 : List Int) (l1 : List Int) (a2 : Int) (a3 : Int) : Option (List Int) := (impl_asked.f k l0 3 l1).bind fun t166 => (if t166 = true then (if a3 < 0 then (impl_BestTour.j0 k l0 l1 a2 a3 true) else (if a3 ≥ 12 then (impl_BestTour.j0 k l0 l1 a2 a3 true) else (if a2 < 0 then (impl_BestTour.j0 k l0 l1 a2 a3 true) else (impl_BestTour.j0 k l0 l1 a2 a3 (decide (a2 ≥ (l0.length : Int))))))) else (impl_BestTour.j0 k l0 l1 a2 a3 true))
theorem impl_BestTour.mono_l : ∀ k, (∀ y0 y1 y2 y3 y4, LeO (impl_BestTour.j0 k y0 y1 y2 y3 y4) (impl_BestTour.j0 (k + 1) y0 y1 y2 y3 y4)) ∧ (∀ y0 y1 y2 y3 y4 y5 y6, LeO (impl_BestTour.l0 k y0 y1 y2 y3 y4 y5 y6) (impl_BestTour.l0 (k + 1) y0 y1 y2 y3 y4 y5 y6)) ∧ (∀ y0 y1 y2 y3 y4 y5 y6 y7 y8 y9, LeO (impl_BestTour.l1 k y0 y1 y2 y3 y4 y5 y6 y7 y8 y9) (impl_BestTour.l1 (k + 1) y0 y1 y2 y3 y4 y5 y6 y7 y8 y9)) ∧ (∀ y0 y1 y2 y3 y4 y5 y6 y7 y8 y9 y10 y11 y12, LeO (impl_BestTour.l2 k y0 y1 y2 y3 y4 y5 y6 y7 y8 y9 y10 y11 y12) (impl_BestTour.l2 (k + 1) y0 y1 y2 y3 y4 y5 y6 y7 y8 y9 y10 y11 y12)) ∧ (∀ y0 y1 y2 y3 y4, LeO (impl_BestTour.l3 k y0 y1 y2 y3 y4) (impl_BestTour.l3 (k + 1) y0 y1 y2 y3 y4)) ∧ (∀ y0 y1 y2 y3 y4 y5 y6 y7, LeO (impl_BestTour.l4 k y0 y1 y2 y3 y4 y5 y6 y7) (impl_BestTour.l4 (k + 1) y0 y1 y2 y3 y4 y5 y6 y7))
 | 0 => ⟨fun _ _ _ _ _ r h => by simp [impl_BestTour.j0] at h, fun _ _ _ _ _ _ _ r h => by simp [impl_BestTour.l0] at h, fun _ _ _ _ _ _ _ _ _ _ r h => by simp [impl_BestTour.l1] at h, fun _ _ _ _ _ _ _ _ _ _ _ _ _ r h => by simp [impl_BestTour.l2] at h, fun _ _ _ _ _ r h => by simp [impl_BestTour.l3] at h, fun _ _ _ _ _ _ _ _ r h => by simp [impl_BestTour.l4] at h⟩
 | k + 1 => by
  obtain ⟨ih0, ih1, ih2, ih3, ih4, ih5⟩ := impl_BestTour.mono_l k
  refine ⟨?_, ?_, ?_, ?_, ?_, ?_⟩
  ·intro y0 y1 y2 y3 y4
   unfold impl_BestTour.j0
   repeat' first|(with_reducible first|exact ih0 _ _ _ _ _|exact ih1 _ _ _ _ _ _ _|exact ih2 _ _ _ _ _ _ _ _ _ _|exact ih3 _ _ _ _ _ _ _ _ _ _ _ _ _|exact ih4 _ _ _ _ _|exact ih5 _ _ _ _ _ _ _ _|exact impl_asked.mono _ _ _ _|exact LeO.refl _|exact LeO.none _|refine LeO.ite ?_ ?_|refine LeO.bind ?_ (fun _ => ?_))|exact ih0 _ _ _ _ _|exact ih1 _ _ _ _ _ _ _|exact ih2 _ _ _ _ _ _ _ _ _ _|exact ih3 _ _ _ _ _ _ _ _ _ _ _ _ _|exact ih4 _ _ _ _ _|exact ih5 _ _ _ _ _ _ _ _|exact impl_asked.mono _ _ _ _|exact LeO.none _|refine LeO.ite ?_ ?_|refine LeO.bind ?_ (fun _ => ?_)
  ·intro y0 y1 y2 y3 y4 y5 y6
   unfold impl_BestTour.l0
   repeat' first|(with_reducible first|exact ih0 _ _ _ _ _|exact ih1 _ _ _ _ _ _ _|exact ih2 _ _ _ _ _ _ _ _ _ _|exact ih3 _ _ _ _ _ _ _ _ _ _ _ _ _|exact ih4 _ _ _ _ _|exact ih5 _ _ _ _ _ _ _ _|exact impl_asked.mono _ _ _ _|exact LeO.refl _|exact LeO.none _|refine LeO.ite ?_ ?_|refine LeO.bind ?_ (fun _ => ?_))|exact ih0 _ _ _ _ _|exact ih1 _ _ _ _ _ _ _|exact ih2 _ _ _ _ _ _ _ _ _ _|exact ih3 _ _ _ _ _ _ _ _ _ _ _ _ _|exact ih4 _ _ _ _ _|exact ih5 _ _ _ _ _ _ _ _|exact impl_asked.mono _ _ _ _|exact LeO.none _|refine LeO.ite ?_ ?_|refine LeO.bind ?_ (fun _ => ?_)
  ·intro y0 y1 y2 y3 y4 y5 y6 y7 y8 y9
   unfold impl_BestTour.l1
   repeat' first|(with_reducible first|exact ih0 _ _ _ _ _|exact ih1 _ _ _ _ _ _ _|exact ih2 _ _ _ _ _ _ _ _ _ _|exact ih3 _ _ _ _ _ _ _ _ _ _ _ _ _|exact ih4 _ _ _ _ _|exact ih5 _ _ _ _ _ _ _ _|exact impl_asked.mono _ _ _ _|exact LeO.refl _|exact LeO.none _|refine LeO.ite ?_ ?_|refine LeO.bind ?_ (fun _ => ?_))|exact ih0 _ _ _ _ _|exact ih1 _ _ _ _ _ _ _|exact ih2 _ _ _ _ _ _ _ _ _ _|exact ih3 _ _ _ _ _ _ _ _ _ _ _ _ _|exact ih4 _ _ _ _ _|exact ih5 _ _ _ _ _ _ _ _|exact impl_asked.mono _ _ _ _|exact LeO.none _|refine LeO.ite ?_ ?_|refine LeO.bind ?_ (fun _ => ?_)
  ·intro y0 y1 y2 y3 y4 y5 y6 y7 y8 y9 y10 y11 y12
   unfold impl_BestTour.l2
   repeat' first|(with_reducible first|exact ih0 _ _ _ _ _|exact ih1 _ _ _ _ _ _ _|exact ih2 _ _ _ _ _ _ _ _ _ _|exact ih3 _ _ _ _ _ _ _ _ _ _ _ _ _|exact ih4 _ _ _ _ _|exact ih5 _ _ _ _ _ _ _ _|exact impl_asked.mono _ _ _ _|exact LeO.refl _|exact LeO.none _|refine LeO.ite ?_ ?_|refine LeO.bind ?_ (fun _ => ?_))|exact ih0 _ _ _ _ _|exact ih1 _ _ _ _ _ _ _|exact ih2 _ _ _ _ _ _ _ _ _ _|exact ih3 _ _ _ _ _ _ _ _ _ _ _ _ _|exact ih4 _ _ _ _ _|exact ih5 _ _ _ _ _ _ _ _|exact impl_asked.mono _ _ _ _|exact LeO.none _|refine LeO.ite ?_ ?_|refine LeO.bind ?_ (fun _ => ?_)
  ·intro y0 y1 y2 y3 y4
   unfold impl_BestTour.l3
   repeat' first|(with_reducible first|exact ih0 _ _ _ _ _|exact ih1 _ _ _ _ _ _ _|exact ih2 _ _ _ _ _ _ _ _ _ _|exact ih3 _ _ _ _ _ _ _ _ _ _ _ _ _|exact ih4 _ _ _ _ _|exact ih5 _ _ _ _ _ _ _ _|exact impl_asked.mono _ _ _ _|exact LeO.refl _|exact LeO.none _|refine LeO.ite ?_ ?_|refine LeO.bind ?_ (fun _ => ?_))|exact ih0 _ _ _ _ _|exact ih1 _ _ _ _ _ _ _|exact ih2 _ _ _ _ _ _ _ _ _ _|exact ih3 _ _ _ _ _ _ _ _ _ _ _ _ _|exact ih4 _ _ _ _ _|exact ih5 _ _ _ _ _ _ _ _|exact impl_asked.mono _ _ _ _|exact LeO.none _|refine LeO.ite ?_ ?_|refine LeO.bind ?_ (fun _ => ?_)
  ·intro y0 y1 y2 y3 y4 y5 y6 y7
   unfold impl_BestTour.l4
   repeat' first|(with_reducible first|exact ih0 _ _ _ _ _|exact ih1 _ _ _ _ _ _ _|exact ih2 _ _ _ _ _ _ _ _ _ _|exact ih3 _ _ _ _ _ _ _ _ _ _ _ _ _|exact ih4 _ _ _ _ _|exact ih5 _ _ _ _ _ _ _ _|exact impl_asked.mono _ _ _ _|exact LeO.refl _|exact LeO.none _|refine LeO.ite ?_ ?_|refine LeO.bind ?_ (fun _ => ?_))|exact ih0 _ _ _ _ _|exact ih1 _ _ _ _ _ _ _|exact ih2 _ _ _ _ _ _ _ _ _ _|exact ih3 _ _ _ _ _ _ _ _ _ _ _ _ _|exact ih4 _ _ _ _ _|exact ih5 _ _ _ _ _ _ _ _|exact impl_asked.mono _ _ _ _|exact LeO.none _|refine LeO.ite ?_ ?_|refine LeO.bind ?_ (fun _ => ?_)
theorem impl_BestTour.mono : ∀ a0 a1 a2 a3 k, LeO (impl_BestTour.f k a0 a1 a2 a3) (impl_BestTour.f (k + 1) a0 a1 a2 a3) := by
 intro a0 a1 a2 a3 k
 obtain ⟨ih0, ih1, ih2, ih3, ih4, ih5⟩ := impl_BestTour.mono_l k
 unfold impl_BestTour.f
 repeat' first|(with_reducible first|exact ih0 _ _ _ _ _|exact ih1 _ _ _ _ _ _ _|exact ih2 _ _ _ _ _ _ _ _ _ _|exact ih3 _ _ _ _ _ _ _ _ _ _ _ _ _|exact ih4 _ _ _ _ _|exact ih5 _ _ _ _ _ _ _ _|exact impl_asked.mono _ _ _ _|exact LeO.refl _|exact LeO.none _|refine LeO.ite ?_ ?_|refine LeO.bind ?_ (fun _ => ?_))|exact ih0 _ _ _ _ _|exact ih1 _ _ _ _ _ _ _|exact ih2 _ _ _ _ _ _ _ _ _ _|exact ih3 _ _ _ _ _ _ _ _ _ _ _ _ _|exact ih4 _ _ _ _ _|exact ih5 _ _ _ _ _ _ _ _|exact impl_asked.mono _ _ _ _|exact LeO.none _|refine LeO.ite ?_ ?_|refine LeO.bind ?_ (fun _ => ?_)
def impl_BestTour.T17 : Bool × List (List Nat × List Nat) := (true, [([], []), ([], []), ([], []), ([], []), ([2, 3], [2, 3]), ([4], [4]), ([], []), ([], []), ([], []), ([6, 7, 8], [6, 7, 8]), ([], []), ([], []), ([11], [11]), ([10, 12], [10, 12]), ([13], [13]), ([], []), ([14, 15], [14, 15]), ([16], [16]), ([9, 17], [9, 17]), ([5, 18], [5, 18]), ([0, 1, 0, 1, 2, 3, 4, 5, 6, 7, 8, 9, 10, 11, 12, 13, 14, 15, 16, 17, 18, 19], [0, 1]), ([20, 19, 9, 0, 1, 2, 3, 4, 5, 6, 7, 8, 9, 10, 11, 12, 13, 14, 15, 16, 17, 18, 19], [19, 20])])
def impl_BestTour.B17 : List Nat := [0, 0, 0, 0, 12, 28, 0, 0, 0, 448, 0, 0, 2048, 7168, 15360, 0, 64512, 130048, 262080, 524284, 1048575, 2097151]
theorem impl_BestTour.tab17 : rtab .any (opsOf Try.f11 17) = impl_BestTour.T17 := by kernel_rfl
theorem impl_BestTour.bits17 : waitsOk impl_BestTour.T17.2 impl_BestTour.B17 = true := by kernel_rfl
def impl_BestTour.T21 : Bool × List (List Nat × List Nat) := (true, [([], []), ([], []), ([0, 1], [0, 1]), ([2], [2]), ([], []), ([], []), ([4, 5], [4, 5]), ([6], [6]), ([], []), ([7, 8], [7, 8]), ([9], [9]), ([3, 10], [3, 10])])
def impl_BestTour.B21 : List Nat := [0, 0, 3, 7, 0, 0, 48, 112, 0, 496, 1008, 2047]
theorem impl_BestTour.tab21 : rtab .any (opsOf Try.f11 21) = impl_BestTour.T21 := by kernel_rfl
theorem impl_BestTour.bits21 : waitsOk impl_BestTour.T21.2 impl_BestTour.B21 = true := by kernel_rfl
def impl_BestTour.T31 : Bool × List (List Nat × List Nat) := (true, [([], []), ([], []), ([0, 1], [0, 1]), ([2], [2]), ([], []), ([3, 4], [3, 4]), ([5], [5]), ([6], [6]), ([7], [7]), ([8], [8]), ([8], [8]), ([8], [8]), ([9, 10, 11, 8, 8], [8, 9, 10, 11]), ([8], [8]), ([8], [8]), ([14, 8], [8, 14]), ([13, 15, 8], [8, 13, 15]), ([16, 8], [8, 16]), ([8], [8]), ([17, 18, 8], [8, 17, 18]), ([19, 8], [8, 19]), ([12, 20, 8], [8, 12, 20]), ([8], [8]), ([8], [8]), ([22, 23, 8], [8, 22, 23]), ([24, 8], [8, 24]), ([8], [8]), ([25, 26, 8], [8, 25, 26]), ([27, 8], [8, 27]), ([21, 28, 8], [8, 21, 28]), ([8, 29], [8, 29])])
def impl_BestTour.B31 : List Nat := [0, 0, 3, 7, 0, 31, 63, 127, 255, 511, 511, 511, 4095, 511, 511, 16895, 57855, 123391, 511, 516607, 1040895, 2097151, 511, 511, 12583423, 29360639, 511, 130023935, 264241663, 536870911, 1073741823]
theorem impl_BestTour.tab31 : rtab .any (opsOf Try.f11 31) = impl_BestTour.T31 := by kernel_rfl
theorem impl_BestTour.bits31 : waitsOk impl_BestTour.T31.2 impl_BestTour.B31 = true := by kernel_rfl
set_option maxHeartbeats 8000000 in
set_option maxRecDepth 100000 in
theorem impl_BestTour.calls (k : Nat) (A0 : Option Addr) (c0 : Nat) (l0 : List Int) (A1 : Option Addr) (c1 : Nat) (l1 : List Int) (a2 : Int) (a3 : Int) (r : List Int) (w : World) (hr0 : Kd.C (Kd.int .i64) w A0 l0.length l0) (hc0 : l0.length ≤ c0) (hr1 : Kd.C (Kd.int .i64) w A1 l1.length l1) (hc1 : l1.length ≤ c1) (h : impl_BestTour.f k l0 l1 a2 a3 = some r) :
  Calls Try.prog 11 #[.slice A0 l0.length c0, .slice A1 l1.length c1, .int .i64 a2, .int .i64 a3] w fun e w' => ∃ v0_ : Value, e = .returned (v0_) ∧ Kd.R (Kd.int .i64) 3 w' w.heap.size (fun _ => True) v0_ r ∧ Below w.heap.size w w' := by
 have HR0 := Aside0.mk hr0
 have HC0 := Aside0.mk hc0
 clear hr0 hc0
 have HR1 := Aside0.mk hr1
 have HC1 := Aside0.mk hc1
 clear hr1 hc1
 have HB := Aside0.mk (Below.refl w.heap.size w)
 have H : ((impl_asked.f k l0 3 l1).bind fun t166 => (if t166 = true then (if a3 < 0 then (impl_BestTour.j0 k l0 l1 a2 a3 true) else (if a3 ≥ 12 then (impl_BestTour.j0 k l0 l1 a2 a3 true) else (if a2 < 0 then (impl_BestTour.j0 k l0 l1 a2 a3 true) else (impl_BestTour.j0 k l0 l1 a2 a3 (decide (a2 ≥ (l0.length : Int))))))) else (impl_BestTour.j0 k l0 l1 a2 a3 true))) = some r := h
 clear h
 have HC5 := Aside0.mk H
 clear H
 go_enter Try.func11, Try.ntmps11
 go_upto_region 1 with (fail)
 go_cut [40] (fun v40 wc => ∃ (kq : Nat) (x40_4 : Bool), v40 = .bool x40_4 ∧ Aside0 (impl_BestTour.j0 kq l0 l1 a2 a3 x40_4 = some r) ∧ Aside0 (kq ≤ k) ∧ Aside0 (Below w.heap.size w wc))
 case first =>
  have H := HC5.out
  clear HC5
  replace H := Option.bind_eq_some_iff.mp H
  obtain ⟨t166, A60, H⟩ := H
  replace H : (if t166 = true then (if a3 < 0 then (impl_BestTour.j0 k l0 l1 a2 a3 true) else (if a3 ≥ 12 then (impl_BestTour.j0 k l0 l1 a2 a3 true) else (if a2 < 0 then (impl_BestTour.j0 k l0 l1 a2 a3 true) else (impl_BestTour.j0 k l0 l1 a2 a3 (decide (a2 ≥ (l0.length : Int))))))) else (impl_BestTour.j0 k l0 l1 a2 a3 true)) = some r := H
  have A6 := Aside0.mk A60
  clear A60
  by_cases c7 : t166 = true
  ·subst c7
   have H1 : (if a3 < 0 then (impl_BestTour.j0 k l0 l1 a2 a3 true) else (if a3 ≥ 12 then (impl_BestTour.j0 k l0 l1 a2 a3 true) else (if a2 < 0 then (impl_BestTour.j0 k l0 l1 a2 a3 true) else (impl_BestTour.j0 k l0 l1 a2 a3 (decide (a2 ≥ (l0.length : Int))))))) = some r := by rw [if_pos rfl] at H; exact H
   clear H
   have H := H1
   clear H1
   by_cases c8 : a3 < 0
   ·rw [if_pos c8] at H
    have c8b0 : decide (a3 < 0) = true := decide_eq_true c8
    clear c8
    (first|rw [c8b0]|(simp only [i64_w, i32_w]; rw [c8b0])|skip)
    have H' := Aside0.mk H
    clear H
    go_wp2_with (first|((with_reducible refine gate_callee (f:=27) rfl ?_);refine goesL_ (some 21) rfl rfl Try.func27 (by kernel_rfl) rfl #[.slice A0 l0.length c0,.int .i64 3,.slice A1 l1.length c1] rfl (by (try simp only [List.map_toArray,List.map_cons,List.map_nil]);first|done|rfl|(simp only [List.length_drop,List.length_take];rfl)) ?_;(with_reducible refine (impl_asked.calls k _ _ l0 3 _ _ l1 true _ ?side1 ?side2 ?side3 ?side4 A6.out).mono ?_);(case side1 => repeat (first|exact (Kd.C_below HR0.out HB.out)|(with_reducible first|refine cA ?_ _|refine cN ?_ _|refine cD ?_)));(case side2 => exact HC0.out);(case side3 => repeat (first|exact (Kd.C_below HR1.out HB.out)|(with_reducible first|refine cA ?_ _|refine cN ?_ _|refine cD ?_)));(case side4 => exact HC1.out);rintro e w' ⟨rfl,⟨nd,rfl⟩⟩;refine ⟨_,rfl,?_⟩))
    go_meet
    case rel => exact ⟨_, (true), (by first|rfl|(simp; done)|(simp [*]; done)), H', ⟨by first|omega|exact Nat.le_refl _⟩, ⟨by repeat (first|(with_reducible first|exact HB.out|apply bA|apply bN|apply bD)|exact HB.out)⟩⟩
   ·rw [if_neg c8] at H
    have c8b0 : decide (a3 < 0) = false := decide_eq_false c8
    clear c8
    (first|rw [c8b0]|(simp only [i64_w, i32_w]; rw [c8b0])|skip)
    by_cases c9 : a3 ≥ 12
    ·rw [if_pos c9] at H
     have c9b0 : decide (12 ≤ a3) = true := decide_eq_true c9
     clear c9
     have H' := Aside0.mk H
     clear H
     go_wp2_with (first|((with_reducible refine gate_callee (f:=27) rfl ?_);refine goesL_ (some 21) rfl rfl Try.func27 (by kernel_rfl) rfl #[.slice A0 l0.length c0,.int .i64 3,.slice A1 l1.length c1] rfl (by (try simp only [List.map_toArray,List.map_cons,List.map_nil]);first|done|rfl|(simp only [List.length_drop,List.length_take];rfl)) ?_;(with_reducible refine (impl_asked.calls k _ _ l0 3 _ _ l1 true _ ?side1 ?side2 ?side3 ?side4 A6.out).mono ?_);(case side1 => repeat (first|exact (Kd.C_below HR0.out HB.out)|(with_reducible first|refine cA ?_ _|refine cN ?_ _|refine cD ?_)));(case side2 => exact HC0.out);(case side3 => repeat (first|exact (Kd.C_below HR1.out HB.out)|(with_reducible first|refine cA ?_ _|refine cN ?_ _|refine cD ?_)));(case side4 => exact HC1.out);rintro e w' ⟨rfl,⟨nd,rfl⟩⟩;refine ⟨_,rfl,?_⟩))
     go_meet
     case rel => exact ⟨_, (true), (by first|rfl|(simp; done)|(simp [*]; done)), H', ⟨by first|omega|exact Nat.le_refl _⟩, ⟨by repeat (first|(with_reducible first|exact HB.out|apply bA|apply bN|apply bD)|exact HB.out)⟩⟩
    ·rw [if_neg c9] at H
     have c9b0 : decide (12 ≤ a3) = false := decide_eq_false c9
     clear c9
     by_cases c10 : a2 < 0
     ·rw [if_pos c10] at H
      have c10b0 : decide (a2 < 0) = true := decide_eq_true c10
      clear c10
      have H' := Aside0.mk H
      clear H
      go_wp2_with (first|((with_reducible refine gate_callee (f:=27) rfl ?_);refine goesL_ (some 21) rfl rfl Try.func27 (by kernel_rfl) rfl #[.slice A0 l0.length c0,.int .i64 3,.slice A1 l1.length c1] rfl (by (try simp only [List.map_toArray,List.map_cons,List.map_nil]);first|done|rfl|(simp only [List.length_drop,List.length_take];rfl)) ?_;(with_reducible refine (impl_asked.calls k _ _ l0 3 _ _ l1 true _ ?side1 ?side2 ?side3 ?side4 A6.out).mono ?_);(case side1 => repeat (first|exact (Kd.C_below HR0.out HB.out)|(with_reducible first|refine cA ?_ _|refine cN ?_ _|refine cD ?_)));(case side2 => exact HC0.out);(case side3 => repeat (first|exact (Kd.C_below HR1.out HB.out)|(with_reducible first|refine cA ?_ _|refine cN ?_ _|refine cD ?_)));(case side4 => exact HC1.out);rintro e w' ⟨rfl,⟨nd,rfl⟩⟩;refine ⟨_,rfl,?_⟩))
      go_meet
      case rel => exact ⟨_, (true), (by first|rfl|(simp; done)|(simp [*]; done)), H', ⟨by first|omega|exact Nat.le_refl _⟩, ⟨by repeat (first|(with_reducible first|exact HB.out|apply bA|apply bN|apply bD)|exact HB.out)⟩⟩
     ·rw [if_neg c10] at H
      have c10b0 : decide (a2 < 0) = false := decide_eq_false c10
      clear c10
      have H' := Aside0.mk H
      clear H
      go_wp2_with (first|((with_reducible refine gate_callee (f:=27) rfl ?_);refine goesL_ (some 21) rfl rfl Try.func27 (by kernel_rfl) rfl #[.slice A0 l0.length c0,.int .i64 3,.slice A1 l1.length c1] rfl (by (try simp only [List.map_toArray,List.map_cons,List.map_nil]);first|done|rfl|(simp only [List.length_drop,List.length_take];rfl)) ?_;(with_reducible refine (impl_asked.calls k _ _ l0 3 _ _ l1 true _ ?side1 ?side2 ?side3 ?side4 A6.out).mono ?_);(case side1 => repeat (first|exact (Kd.C_below HR0.out HB.out)|(with_reducible first|refine cA ?_ _|refine cN ?_ _|refine cD ?_)));(case side2 => exact HC0.out);(case side3 => repeat (first|exact (Kd.C_below HR1.out HB.out)|(with_reducible first|refine cA ?_ _|refine cN ?_ _|refine cD ?_)));(case side4 => exact HC1.out);rintro e w' ⟨rfl,⟨nd,rfl⟩⟩;refine ⟨_,rfl,?_⟩))
      go_meet
      case rel => exact ⟨_, (decide (a2 ≥ (l0.length : Int))), (by first|rfl|(simp; done)|(simp [*]; done)), H', ⟨by first|omega|exact Nat.le_refl _⟩, ⟨by repeat (first|(with_reducible first|exact HB.out|apply bA|apply bN|apply bD)|exact HB.out)⟩⟩
  ·replace c7 := Bool.eq_false_iff.mpr c7
   subst c7
   have H1 : (impl_BestTour.j0 k l0 l1 a2 a3 true) = some r := by rw [if_neg (show ¬ (false = true) by decide)] at H; exact H
   clear H
   have H := H1
   clear H1
   have H' := Aside0.mk H
   clear H
   go_wp2_with (first|((with_reducible refine gate_callee (f:=27) rfl ?_);refine goesL_ (some 21) rfl rfl Try.func27 (by kernel_rfl) rfl #[.slice A0 l0.length c0,.int .i64 3,.slice A1 l1.length c1] rfl (by (try simp only [List.map_toArray,List.map_cons,List.map_nil]);first|done|rfl|(simp only [List.length_drop,List.length_take];rfl)) ?_;(with_reducible refine (impl_asked.calls k _ _ l0 3 _ _ l1 false _ ?side1 ?side2 ?side3 ?side4 A6.out).mono ?_);(case side1 => repeat (first|exact (Kd.C_below HR0.out HB.out)|(with_reducible first|refine cA ?_ _|refine cN ?_ _|refine cD ?_)));(case side2 => exact HC0.out);(case side3 => repeat (first|exact (Kd.C_below HR1.out HB.out)|(with_reducible first|refine cA ?_ _|refine cN ?_ _|refine cD ?_)));(case side4 => exact HC1.out);rintro e w' ⟨rfl,⟨nd,rfl⟩⟩;refine ⟨_,rfl,?_⟩))
   go_meet
   case rel => exact ⟨_, (true), (by first|rfl|(simp; done)|(simp [*]; done)), H', ⟨by first|omega|exact Nat.le_refl _⟩, ⟨by repeat (first|(with_reducible first|exact HB.out|apply bA|apply bN|apply bD)|exact HB.out)⟩⟩
 case rest =>
  clear HC5
  try clear c1
  try clear c2
  try clear p2
  try clear c7
  try clear c8
  try clear c8b0
  try clear c9
  try clear c9b0
  try clear c10
  try clear c10b0
  obtain ⟨kq, x40_4, rfl, HA, HJ4, HB⟩ := hcut
  cases kq with
  | zero => exact absurd HA.out (by simp [impl_BestTour.j0])
  | succ kj4 =>
   have H := HA.out
   clear HA
   simp only [impl_BestTour.j0] at H
   by_cases c11 : x40_4 = true
   ·subst c11
    have H1 : (some ([] : List Int)) = some r := by rw [if_pos rfl] at H; exact H
    clear H
    have H := H1
    clear H1
    obtain rfl := Option.some.inj H
    go_wp2
    go_ret
    exact ⟨_, by first|rfl|(simp [errW_none, errW_some] <;> rfl)|(simp [*, errW_none, errW_some] <;> rfl), by first|exact Kd.R_nil _ _ _ _ _|exact Kd.N_nil _ _ _ _ _|exact Kd.V_nil _ _ _ _ _|exact Kd.Q_nil _ _ _ _ _|exact Kd.S_nil _ _ _ _ _, by repeat (first|(with_reducible first|exact HB.out|apply bA|apply bN|apply bD)|exact HB.out)⟩
   ·replace c11 := Bool.eq_false_iff.mpr c11
    subst c11
    have H1 : (if 0 ≤ (l0.length : Int) then (if ((l0.length : Int) : Int).toNat ≤ 35184372088832 then (impl_BestTour.l0 kj4 l0 l1 a2 a3 (([(List.replicate ((l0.length : Int) : Int).toNat 0)] : List (List Int))) 0 1) else (none)) else (none)) = some r := by rw [if_neg (show ¬ (false = true) by decide)] at H; exact H
    clear H
    have H := H1
    clear H1
    by_cases c12 : 0 ≤ (l0.length : Int)
    ·rw [if_pos c12] at H
     have LKc12 := Aside0.mk c12
     have c12b0 := eq_true c12
     have c12b1 : decide (0 ≤ (l0.length : Int)) = true := decide_eq_true c12
     clear c12
     by_cases c13 : ((l0.length : Int) : Int).toNat ≤ 35184372088832
     ·rw [if_pos c13] at H
      have c13b0 := eq_true c13
      have c13b1 : decide (((l0.length : Int) : Int).toNat ≤ 35184372088832) = true := decide_eq_true c13
      clear c13
      obtain ⟨y167, hy167⟩ : ∃ y_ : List Int, y_ = (List.replicate ((l0.length : Int) : Int).toNat 0) := ⟨_, rfl⟩
      replace H : (impl_BestTour.l0 kj4 l0 l1 a2 a3 (([y167] : List (List Int))) 0 1) = some r := by first|(rw [hy167]; with_reducible exact H)|(have H2_ := (Option.bind_some _ _).symm.trans H; rw [hy167]; with_reducible exact H2_)|(have H2_ := (Option.bind_some _ _).symm.trans H; with_reducible exact H2_)|with_reducible exact H|(rw [hy167]; exact H)|exact H
      have Ny167 := Aside0.mk hy167
      clear hy167
      obtain ⟨y170, hy170⟩ : ∃ y_ : List (List Int), y_ = (([y167] : List (List Int))) := ⟨_, rfl⟩
      replace H : (impl_BestTour.l0 kj4 l0 l1 a2 a3 y170 0 1) = some r := by first|(rw [hy170]; with_reducible exact H)|(have H2_ := (Option.bind_some _ _).symm.trans H; rw [hy170]; with_reducible exact H2_)|(have H2_ := (Option.bind_some _ _).symm.trans H; with_reducible exact H2_)|with_reducible exact H|(rw [hy170]; exact H)|exact H
      have Ny170 := Aside0.mk hy170
      clear hy170
      have H' := Aside0.mk H
      clear H
      go_wp2_with (first|((with_reducible refine gate_dst (N:=43) rfl ?_);(try (refine gate_guard (by rfl) ?_;dsimp only));refine Kd.R_make (Kd.int .i64) _ 3 rfl (N:=43) rfl 22 _ _ rfl (l0.length : Int) rfl rfl Try.underlying22 (.int .i64 0) 8 info3 rfl (by decide) (by omega) 0 (ok:=fun _ => True) (okp:=fun _ => True) rfl (fun _ hk => hk) trivial (oD (by first|(with_reducible assumption)|assumption)) (Nat.le_trans (Nat.mul_le_mul_right _ (oD (by first|(with_reducible assumption)|assumption) : (l0.length : Int).toNat ≤ 35184372088832)) (by omega)) (Below.refl _ _) (Nat.le_refl _) ?_;intro v168 w14 ho15 hb hg_ hnew_;clear hg_ hnew_;(first|rw [← Ny167.out] at ho15|(simp only [Int.reduceToNat] at ho15;rw [← Ny167.out] at ho15));have n0_:=Aside0.mk (Kd.R_lower ho15 (bS (by repeat (first|(with_reducible first|exact HB.out|apply bA|apply bN|apply bD)|exact HB.out))));have n1_:=Aside0.mk (bT (by repeat (first|(with_reducible first|exact HB.out|apply bA|apply bN|apply bD)|exact HB.out)) hb);clear HB;have HO169:=n0_;have HB:=n1_;clear n0_ n1_;clear hb ho15;obtain ⟨Ao16,co16,eo16⟩:=kS HO169.out;subst eo16)|((with_reducible refine gate_dst (N:=44) rfl ?_);(try (refine gate_guard (by rfl) ?_;dsimp only));refine Kd.N_lit (Kd.slice 3 (Kd.int .i64)) _ 22 ?hg (N':=44) ?hd (xs:=([y167] : List (List Int))) (inner:=[.slice Ao16 y167.length co16]) (ok:=(fun _ => True)) (okp:=(fun _ => True)) ?hr ?hp (fun _ hk => hk) ((show ∀ k_,w14.heap.size ≤ k_ → (fun _ => True) k_ from fun k_ hk => trivial) _ (Nat.le_refl _)) (Below.refl _ _) (Nat.le_refl _) (by simp) ?_;(case hd => rfl);(case hg => rfl);(case hr => first|(go_simp;done)|(go_simp;rfl));(case hp => exact (Reps.one (show Kd.FK (Kd.slice 3 (Kd.int .i64)) _ _ y167 [.slice Ao16 y167.length co16] from (Kd.FK_slice_mk (kR (Kd.R_mono (ok':=(fun _ => True)) (HO169.out) (fun k_ hk => trivial))).2.1 (Kd.R_F (Kd.R_mono (ok':=(fun _ => True)) (HO169.out) (fun k_ hk => trivial))))) (Reps.none _ _)));intro v171 w17 ho18 hb hg_ hnew_;clear hg_ hnew_;(first|rw [← Ny170.out] at ho18|(simp only [Int.reduceToNat] at ho18;rw [← Ny170.out] at ho18));have n0_:=Aside0.mk (Kd.N_lower ho18 (bS (by repeat (first|(with_reducible first|exact HB.out|apply bA|apply bN|apply bD)|exact HB.out))));have n1_:=Aside0.mk (bT (by repeat (first|(with_reducible first|exact HB.out|apply bA|apply bN|apply bD)|exact HB.out)) hb);clear HB;clear HO169;have HO172:=n0_;have HB:=n1_;clear n0_ n1_;clear hb ho18))
      go_loopg [9, 10, 11] kj4 (fun kq v9 v10 v11 w' => ∃ (x9_2 : List (List Int)) (x10_2 : Int) (x11_2 : Int), v10 = .int .i64 x10_2 ∧ v11 = .int .i64 x11_2 ∧ Aside0 (impl_BestTour.l0 kq l0 l1 a2 a3 x9_2 x10_2 x11_2 = some r) ∧ Aside0 (kq ≤ kj4) ∧ Aside0 (Kd.N (Kd.slice 3 (Kd.int .i64)) 22 w' w.heap.size (fun _ => True) v9 x9_2) ∧ Aside0 (Below w.heap.size w w'))
      case atStart => exact ⟨(y170), (0), (1), (by first|rfl|(simp; done)|(simp [*]; done)), (by first|rfl|(simp; done)|(simp [*]; done)), H', ⟨Nat.le_refl _⟩, ⟨by (with_reducible repeat (first|apply Kd.N_alloc|apply Kd.N_drewN|apply Kd.N_drew)); exact HO172.out⟩, ⟨by repeat (first|(with_reducible first|exact HB.out|apply bA|apply bN|apply bD)|exact HB.out)⟩⟩
      case round =>
       clear H'
       try clear c1
       try clear c2
       try clear p2
       try clear c7
       try clear c8
       try clear c8b0
       try clear c9
       try clear c9b0
       try clear c10
       try clear c10b0
       try clear c11
       try clear c12
       try clear c12b0
       try clear c12b1
       try clear c13
       try clear c13b0
       try clear c13b1
       try clear p2
       obtain ⟨x9_2, x10_2, x11_2, rfl, rfl, HA, HK2, HO_9, HB⟩ := hrel
       cases gk with
       | zero => exact absurd HA.out (by simp [impl_BestTour.l0])
       | succ k2 =>
        have H := HA.out
        clear HA
        simp only [impl_BestTour.l0] at H
        by_cases c19 : x11_2 ≤ a3
        ·rw [if_pos c19] at H
         have c19b0 : decide (x11_2 ≤ a3) = true := decide_eq_true c19
         clear c19
         by_cases c20 : 0 ≤ (l0.length : Int)
         ·rw [if_pos c20] at H
          have LKc20 := Aside0.mk c20
          have c20b0 := eq_true c20
          have c20b1 : decide (0 ≤ (l0.length : Int)) = true := decide_eq_true c20
          clear c20
          by_cases c21 : ((l0.length : Int) : Int).toNat ≤ 35184372088832
          ·rw [if_pos c21] at H
           have c21b0 := eq_true c21
           have c21b1 : decide (((l0.length : Int) : Int).toNat ≤ 35184372088832) = true := decide_eq_true c21
           clear c21
           obtain ⟨y173, hy173⟩ : ∃ y_ : List Int, y_ = (List.replicate ((l0.length : Int) : Int).toNat 0) := ⟨_, rfl⟩
           replace H : (impl_BestTour.l1 k2 l0 l1 a2 a3 x9_2 x10_2 x11_2 y173 (l0.length : Int) 0) = some r := by first|(rw [hy173]; with_reducible exact H)|(have H2_ := (Option.bind_some _ _).symm.trans H; rw [hy173]; with_reducible exact H2_)|(have H2_ := (Option.bind_some _ _).symm.trans H; with_reducible exact H2_)|with_reducible exact H|(rw [hy173]; exact H)|exact H
           have Ny173 := Aside0.mk hy173
           clear hy173
           have H' := Aside0.mk H
           clear H
           go_wp2_with (first|((with_reducible refine gate_dst (N:=52) rfl ?_);(try (refine gate_guard (by rfl) ?_;dsimp only));refine Kd.R_make (Kd.int .i64) _ 3 rfl (N:=52) rfl 22 _ _ rfl (l0.length : Int) rfl rfl Try.underlying22 (.int .i64 0) 8 info3 rfl (by decide) (by omega) 0 (ok:=fun _ => True) (okp:=fun _ => True) rfl (fun _ hk => hk) trivial (oD (by first|(with_reducible assumption)|assumption)) (Nat.le_trans (Nat.mul_le_mul_right _ (oD (by first|(with_reducible assumption)|assumption) : (l0.length : Int).toNat ≤ 35184372088832)) (by omega)) (Below.refl _ _) (Nat.le_refl _) ?_;intro v174 w22 ho23 hb hg_ hnew_;clear hg_ hnew_;(first|rw [← Ny173.out] at ho23|(simp only [Int.reduceToNat] at ho23;rw [← Ny173.out] at ho23));have n0_:=Aside0.mk (Kd.N_elder' (by (with_reducible repeat (first|apply Kd.N_alloc|apply Kd.N_drewN|apply Kd.N_drew));exact HO_9.out) (Kd.R_base ho23) hb);have n1_:=Aside0.mk (Kd.R_lower ho23 (bS (by repeat (first|(with_reducible first|exact HB.out|apply bA|apply bN|apply bD)|exact HB.out))));have n2_:=Aside0.mk (bT (by repeat (first|(with_reducible first|exact HB.out|apply bA|apply bN|apply bD)|exact HB.out)) hb);clear HO_9;clear HB;have HO_9:=n0_;have HO175:=n1_;have HB:=n2_;clear n0_ n1_ n2_;clear hb ho23))
           go_loopg [55] k2 (fun kq v55 w' => ∃ (x12_3 : List Int) (x55_3 : Int), v55 = .int .i64 x55_3 ∧ Aside0 (impl_BestTour.l1 kq l0 l1 a2 a3 x9_2 x10_2 x11_2 x12_3 (l0.length : Int) x55_3 = some r) ∧ Aside0 (kq ≤ k2) ∧ Aside0 (Kd.N (Kd.slice 3 (Kd.int .i64)) 22 w' w.heap.size (fun k_ => some k_ ≠ (v174 : Value).ownBlock) u9 x9_2) ∧ Aside0 (Kd.R (Kd.int .i64) 3 w' w.heap.size (fun _ => True) v174 x12_3) ∧ Aside0 (Below w.heap.size w w'))
           case atStart => exact ⟨(y173), (0), (by first|rfl|(simp; done)|(simp [*]; done)), H', ⟨Nat.le_refl _⟩, ⟨by (with_reducible repeat (first|apply Kd.N_alloc|apply Kd.N_drewN|apply Kd.N_drew)); exact Kd.N_mono HO_9.out (fun _ hk => hk.2)⟩, ⟨by (with_reducible repeat first|apply rA|apply rN|apply rD); exact HO175.out⟩, ⟨by repeat (first|(with_reducible first|exact HB.out|apply bA|apply bN|apply bD)|exact HB.out)⟩⟩
           case round =>
            clear H'
            try clear c1
            try clear c2
            try clear p2
            try clear c7
            try clear c8
            try clear c8b0
            try clear c9
            try clear c9b0
            try clear c10
            try clear c10b0
            try clear c11
            try clear c12
            try clear c12b0
            try clear c12b1
            try clear c13
            try clear c13b0
            try clear c13b1
            try clear c19
            try clear c19b0
            try clear c20
            try clear c20b0
            try clear c20b1
            try clear c21
            try clear c21b0
            try clear c21b1
            try clear p2
            obtain ⟨x12_3, x55_3, rfl, HA, HK3, HO_9, HO_12, HB⟩ := hrel
            cases gk with
            | zero => exact absurd HA.out (by simp [impl_BestTour.l1])
            | succ k3 =>
             have H := HA.out
             clear HA
             simp only [impl_BestTour.l1] at H
             by_cases c24 : x55_3 < (l0.length : Int)
             ·rw [if_pos c24] at H
              have c24b0 : decide (x55_3 < (l0.length : Int)) = true := decide_eq_true c24
              clear c24
              by_cases c25 : 0 ≤ x55_3
              ·rw [if_pos c25] at H
               have c25b0 : decide (0 ≤ x55_3) = true := decide_eq_true c25
               clear c25
               by_cases c26 : x55_3 < (x12_3.length : Int)
               ·rw [if_pos c26] at H
                have c26b0 : decide (x55_3 < (x12_3.length : Int)) = true := decide_eq_true c26
                clear c26
                obtain ⟨y182, hy182⟩ : ∃ y_ : List Int, y_ = (x12_3.set (x55_3 : Int).toNat (-1000)) := ⟨_, rfl⟩
                replace H : (impl_BestTour.l2 k3 l0 l1 a2 a3 x9_2 x10_2 x11_2 y182 x55_3 (l0.length : Int) x55_3 (l0.length : Int) 0) = some r := by first|(rw [hy182]; with_reducible exact H)|(have H2_ := (Option.bind_some _ _).symm.trans H; rw [hy182]; with_reducible exact H2_)|(have H2_ := (Option.bind_some _ _).symm.trans H; with_reducible exact H2_)|with_reducible exact H|(rw [hy182]; exact H)|exact H
                have Ny182 := Aside0.mk hy182
                clear hy182
                have H' := Aside0.mk H
                clear H
                have p27 : 0 ≤ (x55_3 : Int) := oD (by first|(with_reducible assumption)|assumption)
                have q27 : (x55_3 : Int) < ((x12_3.length : Int) : Int) := oD (by first|(with_reducible assumption)|assumption)
                obtain ⟨go27, co27, eo27, gb27, gl27, cl27, HG27⟩ := Kd.R_form HO_12.out (by omega)
                (first|cases eo27|(injection eo27 with ea_ en_ ec_; (first|subst ea_|(injection ea_ with ea_; subst ea_)); subst ec_; clear en_))
                have GB27 := Aside0.mk gb27
                have GG27 := Aside0.mk HG27
                clear gb27 gl27 HG27
                obtain ⟨hx27_0, hf27_0⟩ := Kd.R_celln 0 HO_12.out (x55_3 : Int) p27 q27
                replace p27 := eq_true p27
                replace q27 := eq_true q27
                have HP28 := Kd.R_putg HO_12.out (x55_3 : Int) (-1000)
                go_wp2_with (first|((with_reducible refine gate_store (t:=3) (p:=60) rfl ?_);refine store_event (t:=3) (p:=60) (v:=?vo_w29) (w1:=(wr.setCell ⟨go27,(x55_3 : Int).toNat,none⟩ (.int .i64 (-1000)))) ?hg ?ho ?hn ?hr ?_;(case ho => rfl);(case hg => rfl);(case hn => rfl);(case hr => first|(go_simp;done)|(go_simp;rfl));intro w29 hw;have hg : wr.grownBy w29 (some go27):=(by rw [hw];exact HP28.2);have hp_ : Kd.R (Kd.int .i64) 3 w29 w.heap.size (fun _ => True) (.slice (some ⟨go27,0,none⟩) x12_3.length co27) y182:=(by rw [hw,Ny182.out];exact HP28.1);clear HP28;have n0_:=Aside0.mk (Kd.N_afterv (v:=(.slice (some ⟨go27,0,none⟩) x12_3.length co27)) (v1:=(.slice (some ⟨go27,0,none⟩) x12_3.length co27)) (ok:=(fun _ => True)) (by (with_reducible repeat (first|apply Kd.N_alloc|apply Kd.N_drewN|apply Kd.N_drew));exact Kd.N_mono HO_9.out (fun _ hk => ⟨trivial,hk⟩)) hg (.inl rfl));have n1_:=Aside0.mk (hp_);have n2_:=Aside0.mk ((by rw [hw];exact below_set (HB.out) GB27.out : Below w.heap.size w w29));clear HO_9;clear HO_12;clear HB;have HO_9:=n0_;have HO_12:=n1_;have HB:=n2_;clear n0_ n1_ n2_;clear hg hw hp_))
                go_loopg [63] k3 (fun kq v63 w' => ∃ (x12_4 : List Int) (x63_4 : Int), v63 = .int .i64 x63_4 ∧ Aside0 (impl_BestTour.l2 kq l0 l1 a2 a3 x9_2 x10_2 x11_2 x12_4 x55_3 (l0.length : Int) x55_3 (l0.length : Int) x63_4 = some r) ∧ Aside0 (kq ≤ k3) ∧ Aside0 (Kd.N (Kd.slice 3 (Kd.int .i64)) 22 w' w.heap.size (fun k_ => some k_ ≠ ((.slice (some ⟨go27, 0, none⟩) x12_3.length co27) : Value).ownBlock) u9 x9_2) ∧ Aside0 (Kd.R (Kd.int .i64) 3 w' w.heap.size (fun _ => True) (.slice (some ⟨go27, 0, none⟩) x12_3.length co27) x12_4) ∧ Aside0 (Below w.heap.size w w'))
                case atStart => exact ⟨(y182), (0), (by first|rfl|(simp; done)|(simp [*]; done)), H', ⟨Nat.le_refl _⟩, ⟨by (with_reducible repeat (first|apply Kd.N_alloc|apply Kd.N_drewN|apply Kd.N_drew)); exact Kd.N_mono HO_9.out (fun _ hk => hk.2)⟩, ⟨by (with_reducible repeat first|apply rA|apply rN|apply rD); exact HO_12.out⟩, ⟨by repeat (first|(with_reducible first|exact HB.out|apply bA|apply bN|apply bD)|exact HB.out)⟩⟩
                case round =>
                 clear H'
                 try clear c1
                 try clear c2
                 try clear p2
                 try clear q2
                 try clear hx2
                 try clear c7
                 try clear c8
                 try clear c8b0
                 try clear c9
                 try clear c9b0
                 try clear c10
                 try clear c10b0
                 try clear c11
                 try clear c12
                 try clear c12b0
                 try clear c12b1
                 try clear c13
                 try clear c13b0
                 try clear c13b1
                 try clear c19
                 try clear c19b0
                 try clear c20
                 try clear c20b0
                 try clear c20b1
                 try clear c21
                 try clear c21b0
                 try clear c21b1
                 try clear c24
                 try clear c24b0
                 try clear c25
                 try clear c25b0
                 try clear c26
                 try clear c26b0
                 try clear c27
                 try clear p27
                 try clear q27
                 try clear hx27
                 try clear hf27
                 try clear hx27_0
                 try clear p2
                 try clear p27
                 try clear q27
                 obtain ⟨x12_4, x63_4, rfl, HA, HK4, HO_9, HO_12, HB⟩ := hrel
                 have hl12_4 := (kR HO_12.out).1
                 rw [hl12_4] at HO_12
                 (try simp only [hl12_4])
                 (try simp only [hl12_4] at HO_9)
                 cases gk with
                 | zero => exact absurd HA.out (by simp [impl_BestTour.l2])
                 | succ k4 =>
                  have H := HA.out
                  clear HA
                  simp only [impl_BestTour.l2] at H
                  by_cases c30 : x63_4 < (l0.length : Int)
                  ·rw [if_pos c30] at H
                   have c30b0 : decide (x63_4 < (l0.length : Int)) = true := decide_eq_true c30
                   (try (have c30b0_hl12_4 := c30b0; rw [hl12_4] at c30b0_hl12_4))
                   clear c30
                   by_cases c31 : 0 ≤ x55_3
                   ·rw [if_pos c31] at H
                    have c31b0 : decide (0 ≤ x55_3) = true := decide_eq_true c31
                    (try (have c31b0_hl12_4 := c31b0; rw [hl12_4] at c31b0_hl12_4))
                    clear c31
                    by_cases c32 : x55_3 < (l0.length : Int)
                    ·rw [if_pos c32] at H
                     have c32b0 : decide (x55_3 < (l0.length : Int)) = true := decide_eq_true c32
                     (try (have c32b0_hl12_4 := c32b0; rw [hl12_4] at c32b0_hl12_4))
                     clear c32
                     by_cases c33 : 0 ≤ x63_4
                     ·rw [if_pos c33] at H
                      have c33b0 := eq_true c33
                      have c33b1 : decide (0 ≤ x63_4) = true := decide_eq_true c33
                      clear c33
                      obtain ⟨ji34, hji34⟩ : ∃ j_ : Int, (shr .i64 (rd l0 x55_3) x63_4) = j_ := ⟨_, rfl⟩
                      replace H : (if (Go.bits .and .i64 (ji34) 1) = 1 then (if x55_3 < (x12_4.length : Int) then ((impl_rise.f l1 x55_3 x63_4).bind fun t185 => (if 0 ≤ (wrap64 (x11_2 - 1)) then (if (wrap64 (x11_2 - 1)) < (x9_2.length : Int) then (if x63_4 < ((rd_L1 x9_2 (wrap64 (x11_2 - 1))).length : Int) then (impl_BestTour.l2 k4 l0 l1 a2 a3 x9_2 x10_2 x11_2 (x12_4.set (x55_3 : Int).toNat (mx (rd x12_4 x55_3) (wrap64 (t185 + (rd (rd_L1 x9_2 (wrap64 (x11_2 - 1))) x63_4))))) x55_3 (l0.length : Int) x55_3 (l0.length : Int) (wrap64 (x63_4 + 1))) else (none)) else (none)) else (none))) else (none)) else (impl_BestTour.l2 k4 l0 l1 a2 a3 x9_2 x10_2 x11_2 x12_4 x55_3 (l0.length : Int) x55_3 (l0.length : Int) (wrap64 (x63_4 + 1)))) = some r := by first|(rw [hji34] at H; exact H)|(simp only [hji34] at H ⊢; exact H)
                      have hji34_ : ((rd l0 x55_3) / 2 ^ min x63_4.toNat 64) = ji34 := hji34
                      have hji34z : x63_4 ≤ 64 → ((rd l0 x55_3) / 2 ^ x63_4.toNat) = ji34 := shr_small hji34
                      by_cases c35 : (Go.bits .and .i64 (ji34) 1) = 1
                      ·rw [if_pos c35] at H
                       have c35b0 : ((Go.bits .and .i64 (ji34) 1) == 1) = true := beq_iff_eq.mpr c35
                       have c35b1 : ((Go.bits .and .i64 (ji34) 1) != 1) = false := bne_eq_false_iff_eq.mpr c35
                       (try (have c35b0_hl12_4 := c35b0; rw [hl12_4] at c35b0_hl12_4))
                       (try (have c35b1_hl12_4 := c35b1; rw [hl12_4] at c35b1_hl12_4))
                       clear c35
                       by_cases c36 : x55_3 < (x12_4.length : Int)
                       ·rw [if_pos c36] at H
                        have c36b0 : decide (x55_3 < (x12_4.length : Int)) = true := decide_eq_true c36
                        (try (have c36b0_hl12_4 := c36b0; rw [hl12_4] at c36b0_hl12_4))
                        clear c36
                        replace H := Option.bind_eq_some_iff.mp H
                        obtain ⟨t185, A370, H⟩ := H
                        replace H : (if 0 ≤ (wrap64 (x11_2 - 1)) then (if (wrap64 (x11_2 - 1)) < (x9_2.length : Int) then (if x63_4 < ((rd_L1 x9_2 (wrap64 (x11_2 - 1))).length : Int) then (impl_BestTour.l2 k4 l0 l1 a2 a3 x9_2 x10_2 x11_2 (x12_4.set (x55_3 : Int).toNat (mx (rd x12_4 x55_3) (wrap64 (t185 + (rd (rd_L1 x9_2 (wrap64 (x11_2 - 1))) x63_4))))) x55_3 (l0.length : Int) x55_3 (l0.length : Int) (wrap64 (x63_4 + 1))) else (none)) else (none)) else (none)) = some r := H
                        have A37 := Aside0.mk A370
                        clear A370
                        obtain ⟨ji38, hji38⟩ : ∃ j_ : Int, (wrap64 (x11_2 - 1)) = j_ := ⟨_, rfl⟩
                        replace H : (if 0 ≤ (ji38) then (if (ji38) < (x9_2.length : Int) then (if x63_4 < ((rd_L1 x9_2 (ji38)).length : Int) then (impl_BestTour.l2 k4 l0 l1 a2 a3 x9_2 x10_2 x11_2 (x12_4.set (x55_3 : Int).toNat (mx (rd x12_4 x55_3) (wrap64 (t185 + (rd (rd_L1 x9_2 (ji38)) x63_4))))) x55_3 (l0.length : Int) x55_3 (l0.length : Int) (wrap64 (x63_4 + 1))) else (none)) else (none)) else (none)) = some r := by first|(rw [hji38] at H; exact H)|(simp only [hji38] at H ⊢; exact H)
                        (try rw [hji38] at A37)
                        have hji38w : (IntKind.i64.wrap (x11_2 - 1)) = ji38 := (i64_w _).trans hji38
                        by_cases c39 : 0 ≤ (ji38)
                        ·rw [if_pos c39] at H
                         have c39b0 : decide (0 ≤ (ji38)) = true := decide_eq_true c39
                         (try (have c39b0_hl12_4 := c39b0; rw [hl12_4] at c39b0_hl12_4))
                         clear c39
                         by_cases c40 : (ji38) < (x9_2.length : Int)
                         ·rw [if_pos c40] at H
                          have c40b0 : decide ((ji38) < (x9_2.length : Int)) = true := decide_eq_true c40
                          (try (have c40b0_hl12_4 := c40b0; rw [hl12_4] at c40b0_hl12_4))
                          clear c40
                          by_cases c41 : x63_4 < ((rd_L1 x9_2 (ji38)).length : Int)
                          ·rw [if_pos c41] at H
                           have c41b0 : decide (x63_4 < ((rd_L1 x9_2 (ji38)).length : Int)) = true := decide_eq_true c41
                           (try (have c41b0_hl12_4 := c41b0; rw [hl12_4] at c41b0_hl12_4))
                           clear c41
                           obtain ⟨ji42, hji42⟩ : ∃ j_ : Int, (mx (rd x12_4 x55_3) (wrap64 (t185 + (rd (rd_L1 x9_2 (ji38)) x63_4)))) = j_ := ⟨_, rfl⟩
                           replace H : (impl_BestTour.l2 k4 l0 l1 a2 a3 x9_2 x10_2 x11_2 (x12_4.set (x55_3 : Int).toNat (ji42)) x55_3 (l0.length : Int) x55_3 (l0.length : Int) (wrap64 (x63_4 + 1))) = some r := by first|(rw [hji42] at H; exact H)|(simp only [hji42] at H ⊢; exact H)
                           (try rw [hji42] at A37)
                           have hji42_ : (if (rd x12_4 x55_3) < (wrap64 (t185 + (rd (rd_L1 x9_2 (ji38)) x63_4))) then (wrap64 (t185 + (rd (rd_L1 x9_2 (ji38)) x63_4))) else (rd x12_4 x55_3)) = ji42 := hji42
                           obtain ⟨y188, hy188⟩ : ∃ y_ : List Int, y_ = (x12_4.set (x55_3 : Int).toNat (ji42)) := ⟨_, rfl⟩
                           replace H : (impl_BestTour.l2 k4 l0 l1 a2 a3 x9_2 x10_2 x11_2 y188 x55_3 (l0.length : Int) x55_3 (l0.length : Int) (wrap64 (x63_4 + 1))) = some r := by first|(rw [hy188]; with_reducible exact H)|(have H2_ := (Option.bind_some _ _).symm.trans H; rw [hy188]; with_reducible exact H2_)|(have H2_ := (Option.bind_some _ _).symm.trans H; with_reducible exact H2_)|with_reducible exact H|(rw [hy188]; exact H)|exact H
                           have Ny188 := Aside0.mk hy188
                           clear hy188
                           have H' := Aside0.mk H
                           clear H
                           have p183 : 0 ≤ (x55_3 : Int) := oD (by first|(with_reducible assumption)|assumption)
                           have q183 : x55_3 < (l0.length : Int) := oD (by first|(with_reducible assumption)|assumption)
                           obtain ⟨ad183, e183, hx183_0⟩ := aI HR0.out x55_3 p183 q183
                           cases e183
                           replace hx183_0 := (HB.out.cell (World.block_lt_of_cell? w _ hx183_0)).trans hx183_0
                           replace p183 := eq_true p183
                           replace q183 := eq_true q183
                           try go_wp2
                           have n0_ := Aside0.mk (Kd.N_drew HO_9.out)
                           have n1_ := Aside0.mk (Kd.R_drew HO_12.out)
                           have n2_ := Aside0.mk (below_drew1 HB.out)
                           clear HO_9
                           clear HO_12
                           clear HB
                           have HO_9 := n0_
                           have HO_12 := n1_
                           have HB := n2_
                           clear n0_ n1_ n2_
                           have p184 : 0 ≤ (x55_3 : Int) := oD (by first|(with_reducible assumption)|assumption)
                           have q184 : x55_3 < (x12_4.length : Int) := oD (by first|(with_reducible assumption)|assumption)
                           obtain ⟨ad184, e184, hx184_0⟩ := aI (kR HO_12.out).2.2 x55_3 p184 q184
                           obtain rfl : (⟨go27, 0, none⟩ : Addr) = ad184 := (by injection e184)
                           (first|simp only [add_plain] at hx184_0|simp only [add_at] at hx184_0|simp only [Addr.add, Nat.zero_add] at hx184_0|skip)
                           replace p184 := eq_true p184
                           replace q184 := eq_true q184
                           obtain ⟨Ao45, co45, eo45⟩ := Kd.N_slice HO_9.out
                           (first|subst eo45|(injection eo45 with f1_ f2_ f3_; have f4_ := f1_.symm; have f5_ := f3_.symm; clear f1_ f2_ f3_; subst f4_; subst f5_))
                           have p186 : 0 ≤ ((ji38) : Int) := oD (by first|(with_reducible assumption)|assumption)
                           have q186 : (ji38) < (x9_2.length : Int) := oD (by first|(with_reducible assumption)|assumption)
                           obtain ⟨ad186, A186_0, c186_0, e186, hx186_0, hl186_0, hi186_0⟩ := at_L1 (Kd.N_reads' HO_9.out).2.2 (ji38) p186 q186
                           cases e186
                           obtain ⟨ce186, hce186, hMe186, hcc186⟩ := Kd.N_get HO_9.out [] (ji38) p186 (by first|exact q186|exact oD (by first|(with_reducible assumption)|assumption)|(have e_ := (Kd.N_reads' HO_9.out).1; omega))
                           obtain ⟨ua186_0, uc186_0, rfl, ul186_0, ge186_0⟩ := Kd.FK_slice_open hMe186
                           have hv186_0 := hcc186 0 _ rfl
                           rw [Nat.add_zero, show ((Kd.slice 3 (Kd.int .i64))).sz = 1 from rfl, Nat.mul_one] at hv186_0
                           replace hv186_0 := Option.some.inj (hv186_0.symm.trans hx186_0)
                           injection hv186_0 with hva_ hvn_ hvc_
                           rw [hva_] at ge186_0
                           rw [hvc_] at ul186_0
                           have HL186_0 := Aside0.mk (show Kd.V (Kd.int .i64) 3 _ w.heap.size _ _ (rd_L1 x9_2 (ji38)) from Kd.V_mk ul186_0 ge186_0)
                           clear hva_ hvn_ hvc_ ge186_0 ul186_0
                           clear hcc186 hce186
                           have HR186_0 := Aside0.mk hi186_0
                           have HC186_0 := Aside0.mk hl186_0
                           clear hi186_0 hl186_0
                           replace p186 := eq_true p186
                           replace q186 := eq_true q186
                           have p187 : 0 ≤ (x63_4 : Int) := oD (by first|(with_reducible assumption)|assumption)
                           have q187 : x63_4 < ((rd_L1 x9_2 (ji38)).length : Int) := oD (by first|(with_reducible assumption)|assumption)
                           obtain ⟨ad187, e187, hx187_0⟩ := aI (by repeat (first|(with_reducible exact HR186_0.out)|(with_reducible refine Kd.C_alloc ?_ _)|(with_reducible refine Kd.C_drewN ?_ _)|(with_reducible refine Kd.C_drew ?_)|exact HR186_0.out)) x63_4 p187 q187
                           cases e187
                           replace p187 := eq_true p187
                           replace q187 := eq_true q187
                           refine start_ (n := 22) (S := fun w' => w'.cell? ⟨go27, (x55_3).toNat, none⟩ = some (.int .i64 (rd x12_4 x55_3)) ∧ w'.cell? (ad186.add ((ji38)).toNat) = some (.slice (some ad187) (rd_L1 x9_2 (ji38)).length c186_0) ∧ w'.cell? (ad187.add (x63_4).toNat) = some (.int .i64 (rd (rd_L1 x9_2 (ji38)) x63_4))) (ds := [21]) #[false, false, false, false, false, false, false, false, false, false, false, false, false, false, false, false, false, false, false, false, false, false] (by kernel_rfl) rfl rfl ⟨hx184_0, hx186_0, hx187_0⟩ (fun hHeld => ?_); refine with_tabW impl_BestTour.tab17 impl_BestTour.bits17 (fun HT_ HW_ => ?_)
                           generalize wr.drew = w44 at HO_9 HO_12 HB HL186_0 HR186_0 hx184_0 hx186_0 hx187_0 hHeld ⊢
                           refine pure_ (i := 0) (N := some 74) (v := ?_) (a' := ?_) #[true, false, false, false, false, false, false, false, false, false, false, false, false, false, false, false, false, false, false, false, false, false] rfl rfl (any_of HT_.out (by kernel_rfl)) (fun _ _ _ h => h) (Or.inl ⟨by rfl, ?_⟩) ?_ ?_
                           rotate_left
                           ·intro w'
                            go_simp
                            with_reducible rfl
                           rotate_left
                           ·simp only [Act.put, lA, lZ, lS, i64_w, i32_w]
                            rfl
                           refine pure_ (i := 1) (N := some 75) (v := ?_) (a' := ?_) #[true, true, false, false, false, false, false, false, false, false, false, false, false, false, false, false, false, false, false, false, false, false] rfl rfl (any_of HT_.out (by kernel_rfl)) (fun _ _ _ h => h) (Or.inl ⟨by rfl, ?_⟩) ?_ ?_
                           rotate_left
                           ·intro w'
                            go_simp
                            with_reducible rfl
                           rotate_left
                           ·simp only [Act.put, lA, lZ, lS, i64_w, i32_w]
                            rfl
                           refine pure_ (i := 2) (N := some 76) (v := ?_) (a' := ?_) #[true, true, true, false, false, false, false, false, false, false, false, false, false, false, false, false, false, false, false, false, false, false] rfl rfl (any_of HT_.out (by kernel_rfl)) (fun _ _ _ h => h) (Or.inl ⟨by rfl, ?_⟩) ?_ ?_
                           rotate_left
                           ·intro w'
                            go_simp
                            with_reducible rfl
                           rotate_left
                           ·simp only [Act.put, lA, lZ, lS, i64_w, i32_w]
                            rfl
                           refine pure_ (i := 3) (N := some 77) (v := ?_) (a' := ?_) #[true, true, true, true, false, false, false, false, false, false, false, false, false, false, false, false, false, false, false, false, false, false] rfl rfl (any_of HT_.out (by kernel_rfl)) (fun _ _ _ h => h) (Or.inl ⟨by rfl, ?_⟩) ?_ ?_
                           rotate_left
                           ·intro w'
                            go_simp
                            with_reducible rfl
                           rotate_left
                           ·simp only [Act.put, lA, lZ, lS, i64_w, i32_w]
                            rfl
                           refine pure_ (i := 4) (N := some 78) (v := ?_) (a' := ?_) #[true, true, true, true, true, false, false, false, false, false, false, false, false, false, false, false, false, false, false, false, false, false] rfl rfl (any_of HT_.out (by kernel_rfl)) (fun _ _ _ h => h) (Or.inl ⟨by rfl, ?_⟩) ?_ ?_
                           rotate_left
                           ·intro w'
                            go_simp
                            with_reducible rfl
                           rotate_left
                           ·simp only [Act.put, lA, lZ, lS, i64_w, i32_w]
                            rfl
                           refine pure_ (i := 6) (N := some 80) (v := ?_) (a' := ?_) #[true, true, true, true, true, false, true, false, false, false, false, false, false, false, false, false, false, false, false, false, false, false] rfl rfl (any_of HT_.out (by kernel_rfl)) (fun _ _ _ h => h) (Or.inl ⟨by rfl, ?_⟩) ?_ ?_
                           rotate_left
                           ·intro w'
                            go_simp
                            with_reducible rfl
                           rotate_left
                           ·simp only [Act.put, lA, lZ, lS, i64_w, i32_w]
                            rfl
                           refine pure_ (i := 7) (N := some 81) (v := ?_) (a' := ?_) #[true, true, true, true, true, false, true, true, false, false, false, false, false, false, false, false, false, false, false, false, false, false] rfl rfl (any_of HT_.out (by kernel_rfl)) (fun _ _ _ h => h) (Or.inl ⟨by rfl, ?_⟩) ?_ ?_
                           rotate_left
                           ·intro w'
                            go_simp
                            with_reducible rfl
                           rotate_left
                           ·simp only [Act.put, lA, lZ, lS, i64_w, i32_w]
                            rfl
                           refine pure_ (i := 8) (N := some 82) (v := ?_) (a' := ?_) #[true, true, true, true, true, false, true, true, true, false, false, false, false, false, false, false, false, false, false, false, false, false] rfl rfl (any_of HT_.out (by kernel_rfl)) (fun _ _ _ h => h) (Or.inl ⟨by rfl, ?_⟩) ?_ ?_
                           rotate_left
                           ·intro w'
                            go_simp
                            with_reducible rfl
                           rotate_left
                           ·simp only [Act.put, lA, lZ, lS, i64_w, i32_w]
                            rfl
                           refine pure_ (i := 10) (N := some 84) (v := ?_) (a' := ?_) #[true, true, true, true, true, false, true, true, true, false, true, false, false, false, false, false, false, false, false, false, false, false] rfl rfl (any_of HT_.out (by kernel_rfl)) (fun _ _ _ h => h) (Or.inl ⟨by rfl, ?_⟩) ?_ ?_
                           rotate_left
                           ·intro w'
                            go_simp
                            with_reducible rfl
                           rotate_left
                           ·simp only [Act.put, lA, lZ, lS, i64_w, i32_w]
                            rfl
                           refine pure_ (i := 11) (N := some 85) (v := ?_) (a' := ?_) #[true, true, true, true, true, false, true, true, true, false, true, true, false, false, false, false, false, false, false, false, false, false] rfl rfl (any_of HT_.out (by kernel_rfl)) (fun _ _ _ h => h) (Or.inl ⟨by rfl, ?_⟩) ?_ ?_
                           rotate_left
                           ·intro w'
                            go_simp
                            with_reducible rfl
                           rotate_left
                           ·simp only [Act.put, lA, lZ, lS, i64_w, i32_w]
                            rfl
                           refine pure_ (i := 12) (N := some 86) (v := ?_) (a' := ?_) #[true, true, true, true, true, false, true, true, true, false, true, true, true, false, false, false, false, false, false, false, false, false] rfl rfl (any_of HT_.out (by kernel_rfl)) (fun _ _ _ h => h) (Or.inl ⟨by rfl, ?_⟩) ?_ ?_
                           rotate_left
                           ·intro w'
                            go_simp
                            with_reducible rfl
                           rotate_left
                           ·simp only [Act.put, lA, lZ, lS, i64_w, i32_w]
                            rfl
                           refine pure_ (i := 13) (N := some 87) (v := ?_) (a' := ?_) #[true, true, true, true, true, false, true, true, true, false, true, true, true, true, false, false, false, false, false, false, false, false] rfl rfl (any_of HT_.out (by kernel_rfl)) (fun _ _ _ h => h) (Or.inl ⟨by rfl, ?_⟩) ?_ ?_
                           rotate_left
                           ·intro w'
                            go_simp
                            with_reducible rfl
                           rotate_left
                           ·simp only [Act.put, lA, lZ, lS, i64_w, i32_w]
                            rfl
                           refine pure_ (i := 15) (N := some 89) (v := ?_) (a' := ?_) #[true, true, true, true, true, false, true, true, true, false, true, true, true, true, false, true, false, false, false, false, false, false] rfl rfl (any_of HT_.out (by kernel_rfl)) (fun _ _ _ h => h) (Or.inl ⟨by rfl, ?_⟩) ?_ ?_
                           rotate_left
                           ·intro w'
                            go_simp
                            with_reducible rfl
                           rotate_left
                           ·simp only [Act.put, lA, lZ, lS, i64_w, i32_w]
                            rfl
                           refine take_ (i := 5) (N := some 79) (v := ?_) (a' := ?_) #[true, true, true, true, true, true, true, true, true, false, true, true, true, true, false, true, false, false, false, false, false, false] rfl rfl (take_ofW HT_.out HW_.out (by kernel_rfl)) (fun _ _ _ h => h) (Or.inl ⟨by rfl, ?_⟩) hHeld ?_ ?_
                           rotate_left
                           ·rintro w' ⟨s0, s1, s2⟩
                            go_simp
                            with_reducible rfl
                           rotate_left
                           ·simp only [Act.put, lA, lZ, lS, i64_w, i32_w]
                            rfl
                           refine take_ (i := 14) (N := some 88) (v := ?_) (a' := ?_) #[true, true, true, true, true, true, true, true, true, false, true, true, true, true, true, true, false, false, false, false, false, false] rfl rfl (take_ofW HT_.out HW_.out (by kernel_rfl)) (fun _ _ _ h => h) (Or.inl ⟨by rfl, ?_⟩) hHeld ?_ ?_
                           rotate_left
                           ·rintro w' ⟨s0, s1, s2⟩
                            go_simp
                            with_reducible rfl
                           rotate_left
                           ·simp only [Act.put, lA, lZ, lS, i64_w, i32_w]
                            rfl
                           refine pure_ (i := 16) (N := some 90) (v := ?_) (a' := ?_) #[true, true, true, true, true, true, true, true, true, false, true, true, true, true, true, true, true, false, false, false, false, false] rfl rfl (any_of HT_.out (by kernel_rfl)) (fun _ _ _ h => h) (Or.inl ⟨by rfl, ?_⟩) ?_ ?_
                           rotate_left
                           ·intro w'
                            go_simp
                            with_reducible rfl
                           rotate_left
                           ·simp only [Act.put, lA, lZ, lS, i64_w, i32_w]
                            rfl
                           refine take_ (i := 17) (N := some 91) (v := ?_) (a' := ?_) #[true, true, true, true, true, true, true, true, true, false, true, true, true, true, true, true, true, true, false, false, false, false] rfl rfl (take_ofW HT_.out HW_.out (by kernel_rfl)) (fun _ _ _ h => h) (Or.inl ⟨by rfl, ?_⟩) hHeld ?_ ?_
                           rotate_left
                           ·rintro w' ⟨s0, s1, s2⟩
                            go_simp
                            with_reducible rfl
                           rotate_left
                           ·simp only [Act.put, lA, lZ, lS, i64_w, i32_w]
                            rfl
                           refine one_ (i := 9) (N := some 83) #[true, true, true, true, true, true, true, true, true, true, true, true, true, true, true, true, true, true, false, false, false, false] rfl rfl (one_of HT_.out (by kernel_rfl)) (by decide) (fun K hK => ?_)
                           refine goes_ Try.func28 (by kernel_rfl) rfl #[.slice A1 l1.length c1, .int .i64 x55_3, .int .i64 x63_4] (by rfl) rfl rfl (by (try simp only [List.map_toArray, List.map_cons, List.map_nil]); first|done|rfl|(simp only [List.length_drop, List.length_take]; rfl)) ?_
                           with_reducible refine (impl_rise.calls _ _ l1 x55_3 x63_4 t185 _ ?side1 ?side2 A37.out).mono ?_
                           (case side1 => repeat (first|exact (Kd.C_below HR1.out HB.out)|(with_reducible first|refine cA ?_ _|refine cN ?_ _|refine cD ?_)))
                           (case side2 => exact HC1.out)
                           rintro e w' ⟨rfl, ⟨nd, rfl⟩⟩
                           refine ⟨_, rfl, ?_⟩
                           have p43 : 0 ≤ (x55_3 : Int) := oD (by first|(with_reducible assumption)|assumption)
                           have q43 : (x55_3 : Int) < ((x12_4.length : Int) : Int) := oD (by first|(with_reducible assumption)|assumption)
                           obtain ⟨hx43_0, hf43_0⟩ := Kd.R_celln 0 HO_12.out (x55_3 : Int) p43 q43
                           replace p43 := eq_true p43
                           replace q43 := eq_true q43
                           have HP46 := Kd.R_putn HO_12.out (x55_3 : Int) ji42
                           rw [← Ny188.out] at HP46
                           have HQ46 := Aside0.mk HP46
                           clear HP46
                           refine hK.out _ _ ⟨hHeld.1, hHeld.2.1, hHeld.2.2⟩ (fun hHeld => ?_)
                           clear hK K
                           refine norm_ (a' := ?_) ?_ ?_
                           rotate_left
                           ·show Act.put _ (some 83) _ = _
                            simp only [Act.put, lA, lZ, lS, i64_w, i32_w]
                            rfl
                           refine pure_ (i := 18) (N := some 92) (v := ?_) (a' := ?_) #[true, true, true, true, true, true, true, true, true, true, true, true, true, true, true, true, true, true, true, false, false, false] rfl rfl (any_of HT_.out (by kernel_rfl)) (fun _ _ _ h => h) (Or.inl ⟨by rfl, ?_⟩) ?_ ?_
                           rotate_left
                           ·intro w'
                            go_simp
                            with_reducible rfl
                           rotate_left
                           ·simp only [Act.put, lA, lZ, lS, i64_w, i32_w]
                            rfl
                           refine pure_ (i := 19) (N := some 93) (v := ?_) (a' := ?_) #[true, true, true, true, true, true, true, true, true, true, true, true, true, true, true, true, true, true, true, true, false, false] rfl rfl (any_of HT_.out (by kernel_rfl)) (fun _ _ _ h => h) (Or.inl ⟨by rfl, ?_⟩) ?_ ?_
                           rotate_left
                           ·intro w'
                            go_simp
                            with_reducible rfl
                           rotate_left
                           ·simp only [Act.put, lA, lZ, lS, i64_w, i32_w]
                            rfl
                           refine pure_ (i := 20) (N := some 94) (v := ?_) (a' := ?_) #[true, true, true, true, true, true, true, true, true, true, true, true, true, true, true, true, true, true, true, true, true, false] rfl rfl (any_of HT_.out (by kernel_rfl)) (fun _ _ _ h => h) (Or.inl ⟨by rfl, ?_⟩) ?_ ?_
                           rotate_left
                           ·intro w'
                            go_simp
                            with_reducible rfl
                           rotate_left
                           ·simp only [Act.put, lA, lZ, lS, i64_w, i32_w]
                            rfl
                           refine last_ (i := 21) (N := none) #[true, true, true, true, true, true, true, true, true, true, true, true, true, true, true, true, true, true, true, true, true, true] rfl rfl (one_of HT_.out (by kernel_rfl)) (by decide) (fun K hK => ?_)
                           refine skip_ (w1 := ?_) (by rfl) rfl ?_ ?_
                           rotate_left
                           ·go_simp
                            rfl
                           refine hK.out _ _ ?_
                           clear hK K
                           refine done_ (done_of HT_.out (by kernel_rfl)) ?_
                           try go_wp2
                           (try simp only [← hl12_4])
                           go_roundg k4
                           case measure => have := HJ4.out; have := HK2.out; have := HK3.out; have := HK4.out; omega
                           case rel => exact ⟨(y188), (wrap64 (x63_4 + 1)), (by first|rfl|(simp; done)|(simp [*]; done)), H', ⟨by have := HJ4.out; have := HK2.out; have := HK3.out; have := HK4.out; omega⟩, ⟨by (try simp only [hl12_4]); (with_reducible repeat (first|apply Kd.N_alloc|apply Kd.N_drewN|apply Kd.N_drew)); exact Kd.N_mono (Kd.N_far (p := ⟨go27, (x55_3 : Int).toNat, none⟩) (Kd.N_mono HO_9.out (fun k_ hk => (⟨hk, fun e_ => hk (by rw [e_]; rfl)⟩ : _ ∧ k_ ≠ go27))) (fun _ hk => hk.2) (.int .i64 ji42)) (fun _ hk => hk.1)⟩, ⟨by (try simp only [hl12_4]); (with_reducible repeat first|apply rA|apply rN|apply rD); exact HQ46.out⟩, ⟨by repeat (first|(with_reducible first|exact HB.out|apply bA|apply bN|apply bD|refine below_set ?_ GB27.out)|exact HB.out)⟩⟩
                          ·rw [if_neg c41] at H
                           exact absurd H (by simp)
                         ·rw [if_neg c40] at H
                          exact absurd H (by simp)
                        ·rw [if_neg c39] at H
                         exact absurd H (by simp)
                       ·rw [if_neg c36] at H
                        exact absurd H (by simp)
                      ·rw [if_neg c35] at H
                       have c35b0 : ((Go.bits .and .i64 (ji34) 1) == 1) = false := beq_eq_false_iff_ne.mpr c35
                       have c35b1 : ((Go.bits .and .i64 (ji34) 1) != 1) = true := bne_iff_ne.mpr c35
                       (try (have c35b0_hl12_4 := c35b0; rw [hl12_4] at c35b0_hl12_4))
                       (try (have c35b1_hl12_4 := c35b1; rw [hl12_4] at c35b1_hl12_4))
                       have H' := Aside0.mk H
                       clear H
                       have p183 : 0 ≤ (x55_3 : Int) := oD (by first|(with_reducible assumption)|assumption)
                       have q183 : x55_3 < (l0.length : Int) := oD (by first|(with_reducible assumption)|assumption)
                       obtain ⟨ad183, e183, hx183_0⟩ := aI HR0.out x55_3 p183 q183
                       cases e183
                       replace hx183_0 := (HB.out.cell (World.block_lt_of_cell? w _ hx183_0)).trans hx183_0
                       replace p183 := eq_true p183
                       replace q183 := eq_true q183
                       go_wp2
                       (try simp only [← hl12_4])
                       go_roundg k4
                       case measure => have := HJ4.out; have := HK2.out; have := HK3.out; have := HK4.out; omega
                       case rel => exact ⟨(x12_4), (wrap64 (x63_4 + 1)), (by first|rfl|(simp; done)|(simp [*]; done)), H', ⟨by have := HJ4.out; have := HK2.out; have := HK3.out; have := HK4.out; omega⟩, ⟨by (try simp only [hl12_4]); (with_reducible repeat (first|apply Kd.N_alloc|apply Kd.N_drewN|apply Kd.N_drew)); exact HO_9.out⟩, ⟨by (try simp only [hl12_4]); (with_reducible repeat first|apply rA|apply rN|apply rD); exact HO_12.out⟩, ⟨by repeat (first|(with_reducible first|exact HB.out|apply bA|apply bN|apply bD)|exact HB.out)⟩⟩
                     ·rw [if_neg c33] at H
                      exact absurd H (by simp)
                    ·rw [if_neg c32] at H
                     exact absurd H (by simp)
                   ·rw [if_neg c31] at H
                    exact absurd H (by simp)
                  ·rw [if_neg c30] at H
                   have c30b0 : decide (x63_4 < (l0.length : Int)) = false := decide_eq_false c30
                   (try (have c30b0_hl12_4 := c30b0; rw [hl12_4] at c30b0_hl12_4))
                   clear c30
                   have H' := Aside0.mk H
                   clear H
                   go_wp2
                   (try simp only [← hl12_4])
                   go_roundg k4
                   case measure => have := HJ4.out; have := HK2.out; have := HK3.out; have := HK4.out; omega
                   case rel => exact ⟨(x12_4), (wrap64 (x55_3 + 1)), (by first|rfl|(simp; done)|(simp [*]; done)), H', ⟨by have := HJ4.out; have := HK2.out; have := HK3.out; have := HK4.out; omega⟩, ⟨by (try simp only [hl12_4]); (with_reducible repeat (first|apply Kd.N_alloc|apply Kd.N_drewN|apply Kd.N_drew)); exact HO_9.out⟩, ⟨by (try simp only [hl12_4]); (with_reducible repeat first|apply rA|apply rN|apply rD); exact HO_12.out⟩, ⟨by repeat (first|(with_reducible first|exact HB.out|apply bA|apply bN|apply bD)|exact HB.out)⟩⟩
               ·rw [if_neg c26] at H
                exact absurd H (by simp)
              ·rw [if_neg c25] at H
               exact absurd H (by simp)
             ·rw [if_neg c24] at H
              have c24b0 : decide (x55_3 < (l0.length : Int)) = false := decide_eq_false c24
              clear c24
              by_cases c47 : x9_2.length < 5864062014805
              ·rw [if_pos c47] at H
               have LMc47 := Aside0.mk c47
               clear c47
               obtain ⟨y176, hy176⟩ : ∃ y_ : List (List Int), y_ = (x9_2 ++ [x12_3]) := ⟨_, rfl⟩
               replace H : (if 0 ≤ a2 then (if a2 < (x12_3.length : Int) then (if 0 ≤ x10_2 then (if x10_2 < (y176.length : Int) then (if a2 < ((rd_L1 y176 x10_2).length : Int) then (if (rd x12_3 a2) > (rd (rd_L1 y176 x10_2) a2) then (impl_BestTour.l0 k3 l0 l1 a2 a3 y176 x11_2 (wrap64 (x11_2 + 1))) else (impl_BestTour.l0 k3 l0 l1 a2 a3 y176 x10_2 (wrap64 (x11_2 + 1)))) else (none)) else (none)) else (none)) else (none)) else (none)) = some r := by first|(rw [hy176]; with_reducible exact H)|(have H2_ := (Option.bind_some _ _).symm.trans H; rw [hy176]; with_reducible exact H2_)|(have H2_ := (Option.bind_some _ _).symm.trans H; with_reducible exact H2_)|with_reducible exact H|(rw [hy176]; exact H)|exact H
               have Ny176 := Aside0.mk hy176
               clear hy176
               by_cases c48 : 0 ≤ a2
               ·rw [if_pos c48] at H
                have c48b0 : decide (0 ≤ a2) = true := decide_eq_true c48
                clear c48
                by_cases c49 : a2 < (x12_3.length : Int)
                ·rw [if_pos c49] at H
                 have c49b0 : decide (a2 < (x12_3.length : Int)) = true := decide_eq_true c49
                 clear c49
                 by_cases c50 : 0 ≤ x10_2
                 ·rw [if_pos c50] at H
                  have c50b0 : decide (0 ≤ x10_2) = true := decide_eq_true c50
                  clear c50
                  by_cases c51 : x10_2 < (y176.length : Int)
                  ·rw [if_pos c51] at H
                   have c51b0 : decide (x10_2 < (y176.length : Int)) = true := decide_eq_true c51
                   clear c51
                   by_cases c52 : a2 < ((rd_L1 y176 x10_2).length : Int)
                   ·rw [if_pos c52] at H
                    have c52b0 : decide (a2 < ((rd_L1 y176 x10_2).length : Int)) = true := decide_eq_true c52
                    clear c52
                    by_cases c53 : (rd x12_3 a2) > (rd (rd_L1 y176 x10_2) a2)
                    ·rw [if_pos c53] at H
                     have c53b0 : decide ((rd (rd_L1 y176 x10_2) a2) < (rd x12_3 a2)) = true := decide_eq_true c53
                     clear c53
                     have H' := Aside0.mk H
                     clear H
                     obtain ⟨Ao55, co55, eo55⟩ := kS HO_12.out
                     subst eo55
                     try go_wp2_with (first|((with_reducible refine gate_builtin (b:=.append) (xs:=#[.tmp 97,.tmp 99]) rfl ?_);(try (refine gate_guard (by rfl) ?_;dsimp only));at_builtin;refine Kd.N_append (Kd.slice 3 (Kd.int .i64)) (w0:=w) w.heap.size rfl (.tmp 97) (.tmp 99) 43 22 (.slice none 0 0) 24 rfl Try.underlying43 info22 rfl (by decide) (by omega) u9 x9_2 x12_3 [.slice Ao55 x12_3.length co55] (fun _ => True) (fun k_ => ((fun _ => True)) k_ ∧ some k_ ≠ (u9 : Value).ownBlock) rfl rfl ?aP (fun _ hk => hk) ?aF ?aO ?aB ?aS ?aL ?_;(case aP => exact (Kd.FK_slice_mk (kR (Kd.R_mono (ok':=(fun k_ => ((fun _ => True)) k_ ∧ some k_ ≠ (u9 : Value).ownBlock)) (Kd.R_apart' (HO_12.out) (Kd.N_typed HO_9.out) (by decide)) (fun k_ hk => ⟨trivial,hk.2⟩))).2.1 (Kd.R_F (Kd.R_mono (ok':=(fun k_ => ((fun _ => True)) k_ ∧ some k_ ≠ (u9 : Value).ownBlock)) (Kd.R_apart' (HO_12.out) (Kd.N_typed HO_9.out) (by decide)) (fun k_ hk => ⟨trivial,hk.2⟩)))));(case aB => exact (by repeat (first|(with_reducible first|exact HB.out|apply bA|apply bN|apply bD)|exact HB.out)));(case aF => exact (fun _ _ => trivial));(case aO => exact (by (with_reducible repeat (first|apply Kd.N_alloc|apply Kd.N_drewN|apply Kd.N_drew));exact Kd.N_mono HO_9.out (fun _ hk => trivial)));(case aS => exact (bS (by repeat (first|(with_reducible first|exact HB.out|apply bA|apply bN|apply bD)|exact HB.out))));(case aL => have:=LMc47.out;omega);intro v177 w54 ho hb hg hat;have HX_:=Aside0.mk (show Kd.C (Kd.int .i64) w54 Ao55 x12_3.length x12_3 from (Kd.R_F (Kd.R_mono (ok':=(fun k_ => ((fun _ => True)) k_ ∧ some k_ ≠ (u9 : Value).ownBlock)) (Kd.R_apart' (HO_12.out) (Kd.N_typed HO_9.out) (by decide)) (fun k_ hk => ⟨trivial,hk.2⟩))) w54 (fun k_ hk_ hlt_ => hg.block k_ hlt_ hk_.2));rw [← Ny176.out] at ho;have n0_:=Aside0.mk (hb);have n1_:=Aside0.mk (ho);clear HB;clear HO_9;clear HO_12;have HB:=n0_;have HO178:=n1_;clear n0_ n1_;clear ho hb hg hat))
                     have n0_ := Aside0.mk (Kd.N_drew HO178.out)
                     have n1_ := Aside0.mk (below_drew1 HB.out)
                     clear HO178
                     clear HB
                     have HO178 := n0_
                     have HB := n1_
                     clear n0_ n1_
                     have p179 : 0 ≤ (a2 : Int) := oD (by first|(with_reducible assumption)|assumption)
                     have q179 : a2 < (x12_3.length : Int) := oD (by first|(with_reducible assumption)|assumption)
                     obtain ⟨ad179, e179, hx179_0⟩ := aI (by repeat (first|exact HX_.out|(with_reducible refine Kd.C_drew ?_)|(with_reducible refine Kd.C_drewN ?_ _))) a2 p179 q179
                     cases e179
                     replace p179 := eq_true p179
                     replace q179 := eq_true q179
                     obtain ⟨Ao57, co57, eo57⟩ := Kd.N_slice HO178.out
                     (first|subst eo57|(injection eo57 with f1_ f2_ f3_; have f4_ := f1_.symm; have f5_ := f3_.symm; clear f1_ f2_ f3_; subst f4_; subst f5_))
                     have p180 : 0 ≤ (x10_2 : Int) := oD (by first|(with_reducible assumption)|assumption)
                     have q180 : x10_2 < (y176.length : Int) := oD (by first|(with_reducible assumption)|assumption)
                     obtain ⟨ad180, A180_0, c180_0, e180, hx180_0, hl180_0, hi180_0⟩ := at_L1 (Kd.N_reads' HO178.out).2.2 x10_2 p180 q180
                     cases e180
                     obtain ⟨ce180, hce180, hMe180, hcc180⟩ := Kd.N_get HO178.out [] x10_2 p180 (by first|exact q180|exact oD (by first|(with_reducible assumption)|assumption)|(have e_ := (Kd.N_reads' HO178.out).1; omega))
                     obtain ⟨ua180_0, uc180_0, rfl, ul180_0, ge180_0⟩ := Kd.FK_slice_open hMe180
                     have hv180_0 := hcc180 0 _ rfl
                     rw [Nat.add_zero, show ((Kd.slice 3 (Kd.int .i64))).sz = 1 from rfl, Nat.mul_one] at hv180_0
                     replace hv180_0 := Option.some.inj (hv180_0.symm.trans hx180_0)
                     injection hv180_0 with hva_ hvn_ hvc_
                     rw [hva_] at ge180_0
                     rw [hvc_] at ul180_0
                     have HL180_0 := Aside0.mk (show Kd.V (Kd.int .i64) 3 _ w.heap.size _ _ (rd_L1 y176 x10_2) from Kd.V_mk ul180_0 ge180_0)
                     clear hva_ hvn_ hvc_ ge180_0 ul180_0
                     clear hcc180 hce180
                     have HR180_0 := Aside0.mk hi180_0
                     have HC180_0 := Aside0.mk hl180_0
                     clear hi180_0 hl180_0
                     replace p180 := eq_true p180
                     replace q180 := eq_true q180
                     have p181 : 0 ≤ (a2 : Int) := oD (by first|(with_reducible assumption)|assumption)
                     have q181 : a2 < ((rd_L1 y176 x10_2).length : Int) := oD (by first|(with_reducible assumption)|assumption)
                     obtain ⟨ad181, e181, hx181_0⟩ := aI (by repeat (first|(with_reducible exact HR180_0.out)|(with_reducible refine Kd.C_alloc ?_ _)|(with_reducible refine Kd.C_drewN ?_ _)|(with_reducible refine Kd.C_drew ?_)|exact HR180_0.out)) a2 p181 q181
                     cases e181
                     replace p181 := eq_true p181
                     replace q181 := eq_true q181
                     refine start_ (n := 12) (S := fun w' => w'.cell? (ad179.add (a2).toNat) = some (.int .i64 (rd x12_3 a2)) ∧ w'.cell? (ad180.add (x10_2).toNat) = some (.slice (some ad181) (rd_L1 y176 x10_2).length c180_0) ∧ w'.cell? (ad181.add (a2).toNat) = some (.int .i64 (rd (rd_L1 y176 x10_2) a2))) (ds := []) #[false, false, false, false, false, false, false, false, false, false, false, false] (by kernel_rfl) rfl rfl ⟨hx179_0, hx180_0, hx181_0⟩ (fun hHeld => ?_); refine with_tabW impl_BestTour.tab21 impl_BestTour.bits21 (fun HT_ HW_ => ?_)
                     generalize w54.drew = w56 at HO178 HB HL180_0 HR180_0 hx179_0 hx180_0 hx181_0 hHeld ⊢
                     refine pure_ (i := 0) (N := some 101) (v := ?_) (a' := ?_) #[true, false, false, false, false, false, false, false, false, false, false, false] rfl rfl (any_of HT_.out (by kernel_rfl)) (fun _ _ _ h => h) (Or.inl ⟨by rfl, ?_⟩) ?_ ?_
                     rotate_left
                     ·intro w'
                      go_simp
                      with_reducible rfl
                     rotate_left
                     ·simp only [Act.put, lA, lZ, lS, i64_w, i32_w]
                      rfl
                     refine pure_ (i := 1) (N := some 102) (v := ?_) (a' := ?_) #[true, true, false, false, false, false, false, false, false, false, false, false] rfl rfl (any_of HT_.out (by kernel_rfl)) (fun _ _ _ h => h) (Or.inl ⟨by rfl, ?_⟩) ?_ ?_
                     rotate_left
                     ·intro w'
                      go_simp
                      with_reducible rfl
                     rotate_left
                     ·simp only [Act.put, lA, lZ, lS, i64_w, i32_w]
                      rfl
                     refine pure_ (i := 2) (N := some 103) (v := ?_) (a' := ?_) #[true, true, true, false, false, false, false, false, false, false, false, false] rfl rfl (any_of HT_.out (by kernel_rfl)) (fun _ _ _ h => h) (Or.inl ⟨by rfl, ?_⟩) ?_ ?_
                     rotate_left
                     ·intro w'
                      go_simp
                      with_reducible rfl
                     rotate_left
                     ·simp only [Act.put, lA, lZ, lS, i64_w, i32_w]
                      rfl
                     refine pure_ (i := 4) (N := some 105) (v := ?_) (a' := ?_) #[true, true, true, false, true, false, false, false, false, false, false, false] rfl rfl (any_of HT_.out (by kernel_rfl)) (fun _ _ _ h => h) (Or.inl ⟨by rfl, ?_⟩) ?_ ?_
                     rotate_left
                     ·intro w'
                      go_simp
                      with_reducible rfl
                     rotate_left
                     ·simp only [Act.put, lA, lZ, lS, i64_w, i32_w]
                      rfl
                     refine pure_ (i := 5) (N := some 106) (v := ?_) (a' := ?_) #[true, true, true, false, true, true, false, false, false, false, false, false] rfl rfl (any_of HT_.out (by kernel_rfl)) (fun _ _ _ h => h) (Or.inl ⟨by rfl, ?_⟩) ?_ ?_
                     rotate_left
                     ·intro w'
                      go_simp
                      with_reducible rfl
                     rotate_left
                     ·simp only [Act.put, lA, lZ, lS, i64_w, i32_w]
                      rfl
                     refine pure_ (i := 6) (N := some 107) (v := ?_) (a' := ?_) #[true, true, true, false, true, true, true, false, false, false, false, false] rfl rfl (any_of HT_.out (by kernel_rfl)) (fun _ _ _ h => h) (Or.inl ⟨by rfl, ?_⟩) ?_ ?_
                     rotate_left
                     ·intro w'
                      go_simp
                      with_reducible rfl
                     rotate_left
                     ·simp only [Act.put, lA, lZ, lS, i64_w, i32_w]
                      rfl
                     refine pure_ (i := 8) (N := some 109) (v := ?_) (a' := ?_) #[true, true, true, false, true, true, true, false, true, false, false, false] rfl rfl (any_of HT_.out (by kernel_rfl)) (fun _ _ _ h => h) (Or.inl ⟨by rfl, ?_⟩) ?_ ?_
                     rotate_left
                     ·intro w'
                      go_simp
                      with_reducible rfl
                     rotate_left
                     ·simp only [Act.put, lA, lZ, lS, i64_w, i32_w]
                      rfl
                     refine take_ (i := 3) (N := some 104) (v := ?_) (a' := ?_) #[true, true, true, true, true, true, true, false, true, false, false, false] rfl rfl (take_ofW HT_.out HW_.out (by kernel_rfl)) (fun _ _ _ h => h) (Or.inl ⟨by rfl, ?_⟩) hHeld ?_ ?_
                     rotate_left
                     ·rintro w' ⟨s0, s1, s2⟩
                      go_simp
                      with_reducible rfl
                     rotate_left
                     ·simp only [Act.put, lA, lZ, lS, i64_w, i32_w]
                      rfl
                     refine take_ (i := 7) (N := some 108) (v := ?_) (a' := ?_) #[true, true, true, true, true, true, true, true, true, false, false, false] rfl rfl (take_ofW HT_.out HW_.out (by kernel_rfl)) (fun _ _ _ h => h) (Or.inl ⟨by rfl, ?_⟩) hHeld ?_ ?_
                     rotate_left
                     ·rintro w' ⟨s0, s1, s2⟩
                      go_simp
                      with_reducible rfl
                     rotate_left
                     ·simp only [Act.put, lA, lZ, lS, i64_w, i32_w]
                      rfl
                     refine pure_ (i := 9) (N := some 110) (v := ?_) (a' := ?_) #[true, true, true, true, true, true, true, true, true, true, false, false] rfl rfl (any_of HT_.out (by kernel_rfl)) (fun _ _ _ h => h) (Or.inl ⟨by rfl, ?_⟩) ?_ ?_
                     rotate_left
                     ·intro w'
                      go_simp
                      with_reducible rfl
                     rotate_left
                     ·simp only [Act.put, lA, lZ, lS, i64_w, i32_w]
                      rfl
                     refine take_ (i := 10) (N := some 111) (v := ?_) (a' := ?_) #[true, true, true, true, true, true, true, true, true, true, true, false] rfl rfl (take_ofW HT_.out HW_.out (by kernel_rfl)) (fun _ _ _ h => h) (Or.inl ⟨by rfl, ?_⟩) hHeld ?_ ?_
                     rotate_left
                     ·rintro w' ⟨s0, s1, s2⟩
                      go_simp
                      with_reducible rfl
                     rotate_left
                     ·simp only [Act.put, lA, lZ, lS, i64_w, i32_w]
                      rfl
                     refine pure_ (i := 11) (N := some 112) (v := ?_) (a' := ?_) #[true, true, true, true, true, true, true, true, true, true, true, true] rfl rfl (any_of HT_.out (by kernel_rfl)) (fun _ _ _ h => h) (Or.inl ⟨by rfl, ?_⟩) ?_ ?_
                     rotate_left
                     ·intro w'
                      go_simp
                      with_reducible rfl
                     rotate_left
                     ·simp only [Act.put, lA, lZ, lS, i64_w, i32_w]
                      rfl
                     refine done_ (done_of HT_.out (by kernel_rfl)) ?_
                     try go_wp2
                     go_roundg k3
                     case measure => have := HJ4.out; have := HK2.out; have := HK3.out; omega
                     case rel => exact ⟨(y176), (x11_2), (wrap64 (x11_2 + 1)), (by first|rfl|(simp; done)|(simp [*]; done)), (by first|rfl|(simp; done)|(simp [*]; done)), H', ⟨by have := HJ4.out; have := HK2.out; have := HK3.out; omega⟩, ⟨by (with_reducible repeat (first|apply Kd.N_alloc|apply Kd.N_drewN|apply Kd.N_drew)); exact HO178.out⟩, ⟨by repeat (first|(with_reducible first|exact HB.out|apply bA|apply bN|apply bD)|exact HB.out)⟩⟩
                    ·rw [if_neg c53] at H
                     have c53b0 : decide ((rd (rd_L1 y176 x10_2) a2) < (rd x12_3 a2)) = false := decide_eq_false c53
                     clear c53
                     have H' := Aside0.mk H
                     clear H
                     obtain ⟨Ao59, co59, eo59⟩ := kS HO_12.out
                     subst eo59
                     try go_wp2_with (first|((with_reducible refine gate_builtin (b:=.append) (xs:=#[.tmp 97,.tmp 99]) rfl ?_);(try (refine gate_guard (by rfl) ?_;dsimp only));at_builtin;refine Kd.N_append (Kd.slice 3 (Kd.int .i64)) (w0:=w) w.heap.size rfl (.tmp 97) (.tmp 99) 43 22 (.slice none 0 0) 24 rfl Try.underlying43 info22 rfl (by decide) (by omega) u9 x9_2 x12_3 [.slice Ao59 x12_3.length co59] (fun _ => True) (fun k_ => ((fun _ => True)) k_ ∧ some k_ ≠ (u9 : Value).ownBlock) rfl rfl ?aP (fun _ hk => hk) ?aF ?aO ?aB ?aS ?aL ?_;(case aP => exact (Kd.FK_slice_mk (kR (Kd.R_mono (ok':=(fun k_ => ((fun _ => True)) k_ ∧ some k_ ≠ (u9 : Value).ownBlock)) (Kd.R_apart' (HO_12.out) (Kd.N_typed HO_9.out) (by decide)) (fun k_ hk => ⟨trivial,hk.2⟩))).2.1 (Kd.R_F (Kd.R_mono (ok':=(fun k_ => ((fun _ => True)) k_ ∧ some k_ ≠ (u9 : Value).ownBlock)) (Kd.R_apart' (HO_12.out) (Kd.N_typed HO_9.out) (by decide)) (fun k_ hk => ⟨trivial,hk.2⟩)))));(case aB => exact (by repeat (first|(with_reducible first|exact HB.out|apply bA|apply bN|apply bD)|exact HB.out)));(case aF => exact (fun _ _ => trivial));(case aO => exact (by (with_reducible repeat (first|apply Kd.N_alloc|apply Kd.N_drewN|apply Kd.N_drew));exact Kd.N_mono HO_9.out (fun _ hk => trivial)));(case aS => exact (bS (by repeat (first|(with_reducible first|exact HB.out|apply bA|apply bN|apply bD)|exact HB.out))));(case aL => have:=LMc47.out;omega);intro v177 w58 ho hb hg hat;have HX_:=Aside0.mk (show Kd.C (Kd.int .i64) w58 Ao59 x12_3.length x12_3 from (Kd.R_F (Kd.R_mono (ok':=(fun k_ => ((fun _ => True)) k_ ∧ some k_ ≠ (u9 : Value).ownBlock)) (Kd.R_apart' (HO_12.out) (Kd.N_typed HO_9.out) (by decide)) (fun k_ hk => ⟨trivial,hk.2⟩))) w58 (fun k_ hk_ hlt_ => hg.block k_ hlt_ hk_.2));rw [← Ny176.out] at ho;have n0_:=Aside0.mk (hb);have n1_:=Aside0.mk (ho);clear HB;clear HO_9;clear HO_12;have HB:=n0_;have HO178:=n1_;clear n0_ n1_;clear ho hb hg hat))
                     have n0_ := Aside0.mk (Kd.N_drew HO178.out)
                     have n1_ := Aside0.mk (below_drew1 HB.out)
                     clear HO178
                     clear HB
                     have HO178 := n0_
                     have HB := n1_
                     clear n0_ n1_
                     have p179 : 0 ≤ (a2 : Int) := oD (by first|(with_reducible assumption)|assumption)
                     have q179 : a2 < (x12_3.length : Int) := oD (by first|(with_reducible assumption)|assumption)
                     obtain ⟨ad179, e179, hx179_0⟩ := aI (by repeat (first|exact HX_.out|(with_reducible refine Kd.C_drew ?_)|(with_reducible refine Kd.C_drewN ?_ _))) a2 p179 q179
                     cases e179
                     replace p179 := eq_true p179
                     replace q179 := eq_true q179
                     obtain ⟨Ao61, co61, eo61⟩ := Kd.N_slice HO178.out
                     (first|subst eo61|(injection eo61 with f1_ f2_ f3_; have f4_ := f1_.symm; have f5_ := f3_.symm; clear f1_ f2_ f3_; subst f4_; subst f5_))
                     have p180 : 0 ≤ (x10_2 : Int) := oD (by first|(with_reducible assumption)|assumption)
                     have q180 : x10_2 < (y176.length : Int) := oD (by first|(with_reducible assumption)|assumption)
                     obtain ⟨ad180, A180_0, c180_0, e180, hx180_0, hl180_0, hi180_0⟩ := at_L1 (Kd.N_reads' HO178.out).2.2 x10_2 p180 q180
                     cases e180
                     obtain ⟨ce180, hce180, hMe180, hcc180⟩ := Kd.N_get HO178.out [] x10_2 p180 (by first|exact q180|exact oD (by first|(with_reducible assumption)|assumption)|(have e_ := (Kd.N_reads' HO178.out).1; omega))
                     obtain ⟨ua180_0, uc180_0, rfl, ul180_0, ge180_0⟩ := Kd.FK_slice_open hMe180
                     have hv180_0 := hcc180 0 _ rfl
                     rw [Nat.add_zero, show ((Kd.slice 3 (Kd.int .i64))).sz = 1 from rfl, Nat.mul_one] at hv180_0
                     replace hv180_0 := Option.some.inj (hv180_0.symm.trans hx180_0)
                     injection hv180_0 with hva_ hvn_ hvc_
                     rw [hva_] at ge180_0
                     rw [hvc_] at ul180_0
                     have HL180_0 := Aside0.mk (show Kd.V (Kd.int .i64) 3 _ w.heap.size _ _ (rd_L1 y176 x10_2) from Kd.V_mk ul180_0 ge180_0)
                     clear hva_ hvn_ hvc_ ge180_0 ul180_0
                     clear hcc180 hce180
                     have HR180_0 := Aside0.mk hi180_0
                     have HC180_0 := Aside0.mk hl180_0
                     clear hi180_0 hl180_0
                     replace p180 := eq_true p180
                     replace q180 := eq_true q180
                     have p181 : 0 ≤ (a2 : Int) := oD (by first|(with_reducible assumption)|assumption)
                     have q181 : a2 < ((rd_L1 y176 x10_2).length : Int) := oD (by first|(with_reducible assumption)|assumption)
                     obtain ⟨ad181, e181, hx181_0⟩ := aI (by repeat (first|(with_reducible exact HR180_0.out)|(with_reducible refine Kd.C_alloc ?_ _)|(with_reducible refine Kd.C_drewN ?_ _)|(with_reducible refine Kd.C_drew ?_)|exact HR180_0.out)) a2 p181 q181
                     cases e181
                     replace p181 := eq_true p181
                     replace q181 := eq_true q181
                     refine start_ (n := 12) (S := fun w' => w'.cell? (ad179.add (a2).toNat) = some (.int .i64 (rd x12_3 a2)) ∧ w'.cell? (ad180.add (x10_2).toNat) = some (.slice (some ad181) (rd_L1 y176 x10_2).length c180_0) ∧ w'.cell? (ad181.add (a2).toNat) = some (.int .i64 (rd (rd_L1 y176 x10_2) a2))) (ds := []) #[false, false, false, false, false, false, false, false, false, false, false, false] (by kernel_rfl) rfl rfl ⟨hx179_0, hx180_0, hx181_0⟩ (fun hHeld => ?_); refine with_tabW impl_BestTour.tab21 impl_BestTour.bits21 (fun HT_ HW_ => ?_)
                     generalize w58.drew = w60 at HO178 HB HL180_0 HR180_0 hx179_0 hx180_0 hx181_0 hHeld ⊢
                     refine pure_ (i := 0) (N := some 101) (v := ?_) (a' := ?_) #[true, false, false, false, false, false, false, false, false, false, false, false] rfl rfl (any_of HT_.out (by kernel_rfl)) (fun _ _ _ h => h) (Or.inl ⟨by rfl, ?_⟩) ?_ ?_
                     rotate_left
                     ·intro w'
                      go_simp
                      with_reducible rfl
                     rotate_left
                     ·simp only [Act.put, lA, lZ, lS, i64_w, i32_w]
                      rfl
                     refine pure_ (i := 1) (N := some 102) (v := ?_) (a' := ?_) #[true, true, false, false, false, false, false, false, false, false, false, false] rfl rfl (any_of HT_.out (by kernel_rfl)) (fun _ _ _ h => h) (Or.inl ⟨by rfl, ?_⟩) ?_ ?_
                     rotate_left
                     ·intro w'
                      go_simp
                      with_reducible rfl
                     rotate_left
                     ·simp only [Act.put, lA, lZ, lS, i64_w, i32_w]
                      rfl
                     refine pure_ (i := 2) (N := some 103) (v := ?_) (a' := ?_) #[true, true, true, false, false, false, false, false, false, false, false, false] rfl rfl (any_of HT_.out (by kernel_rfl)) (fun _ _ _ h => h) (Or.inl ⟨by rfl, ?_⟩) ?_ ?_
                     rotate_left
                     ·intro w'
                      go_simp
                      with_reducible rfl
                     rotate_left
                     ·simp only [Act.put, lA, lZ, lS, i64_w, i32_w]
                      rfl
                     refine pure_ (i := 4) (N := some 105) (v := ?_) (a' := ?_) #[true, true, true, false, true, false, false, false, false, false, false, false] rfl rfl (any_of HT_.out (by kernel_rfl)) (fun _ _ _ h => h) (Or.inl ⟨by rfl, ?_⟩) ?_ ?_
                     rotate_left
                     ·intro w'
                      go_simp
                      with_reducible rfl
                     rotate_left
                     ·simp only [Act.put, lA, lZ, lS, i64_w, i32_w]
                      rfl
                     refine pure_ (i := 5) (N := some 106) (v := ?_) (a' := ?_) #[true, true, true, false, true, true, false, false, false, false, false, false] rfl rfl (any_of HT_.out (by kernel_rfl)) (fun _ _ _ h => h) (Or.inl ⟨by rfl, ?_⟩) ?_ ?_
                     rotate_left
                     ·intro w'
                      go_simp
                      with_reducible rfl
                     rotate_left
                     ·simp only [Act.put, lA, lZ, lS, i64_w, i32_w]
                      rfl
                     refine pure_ (i := 6) (N := some 107) (v := ?_) (a' := ?_) #[true, true, true, false, true, true, true, false, false, false, false, false] rfl rfl (any_of HT_.out (by kernel_rfl)) (fun _ _ _ h => h) (Or.inl ⟨by rfl, ?_⟩) ?_ ?_
                     rotate_left
                     ·intro w'
                      go_simp
                      with_reducible rfl
                     rotate_left
                     ·simp only [Act.put, lA, lZ, lS, i64_w, i32_w]
                      rfl
                     refine pure_ (i := 8) (N := some 109) (v := ?_) (a' := ?_) #[true, true, true, false, true, true, true, false, true, false, false, false] rfl rfl (any_of HT_.out (by kernel_rfl)) (fun _ _ _ h => h) (Or.inl ⟨by rfl, ?_⟩) ?_ ?_
                     rotate_left
                     ·intro w'
                      go_simp
                      with_reducible rfl
                     rotate_left
                     ·simp only [Act.put, lA, lZ, lS, i64_w, i32_w]
                      rfl
                     refine take_ (i := 3) (N := some 104) (v := ?_) (a' := ?_) #[true, true, true, true, true, true, true, false, true, false, false, false] rfl rfl (take_ofW HT_.out HW_.out (by kernel_rfl)) (fun _ _ _ h => h) (Or.inl ⟨by rfl, ?_⟩) hHeld ?_ ?_
                     rotate_left
                     ·rintro w' ⟨s0, s1, s2⟩
                      go_simp
                      with_reducible rfl
                     rotate_left
                     ·simp only [Act.put, lA, lZ, lS, i64_w, i32_w]
                      rfl
                     refine take_ (i := 7) (N := some 108) (v := ?_) (a' := ?_) #[true, true, true, true, true, true, true, true, true, false, false, false] rfl rfl (take_ofW HT_.out HW_.out (by kernel_rfl)) (fun _ _ _ h => h) (Or.inl ⟨by rfl, ?_⟩) hHeld ?_ ?_
                     rotate_left
                     ·rintro w' ⟨s0, s1, s2⟩
                      go_simp
                      with_reducible rfl
                     rotate_left
                     ·simp only [Act.put, lA, lZ, lS, i64_w, i32_w]
                      rfl
                     refine pure_ (i := 9) (N := some 110) (v := ?_) (a' := ?_) #[true, true, true, true, true, true, true, true, true, true, false, false] rfl rfl (any_of HT_.out (by kernel_rfl)) (fun _ _ _ h => h) (Or.inl ⟨by rfl, ?_⟩) ?_ ?_
                     rotate_left
                     ·intro w'
                      go_simp
                      with_reducible rfl
                     rotate_left
                     ·simp only [Act.put, lA, lZ, lS, i64_w, i32_w]
                      rfl
                     refine take_ (i := 10) (N := some 111) (v := ?_) (a' := ?_) #[true, true, true, true, true, true, true, true, true, true, true, false] rfl rfl (take_ofW HT_.out HW_.out (by kernel_rfl)) (fun _ _ _ h => h) (Or.inl ⟨by rfl, ?_⟩) hHeld ?_ ?_
                     rotate_left
                     ·rintro w' ⟨s0, s1, s2⟩
                      go_simp
                      with_reducible rfl
                     rotate_left
                     ·simp only [Act.put, lA, lZ, lS, i64_w, i32_w]
                      rfl
                     refine pure_ (i := 11) (N := some 112) (v := ?_) (a' := ?_) #[true, true, true, true, true, true, true, true, true, true, true, true] rfl rfl (any_of HT_.out (by kernel_rfl)) (fun _ _ _ h => h) (Or.inl ⟨by rfl, ?_⟩) ?_ ?_
                     rotate_left
                     ·intro w'
                      go_simp
                      with_reducible rfl
                     rotate_left
                     ·simp only [Act.put, lA, lZ, lS, i64_w, i32_w]
                      rfl
                     refine done_ (done_of HT_.out (by kernel_rfl)) ?_
                     try go_wp2
                     go_roundg k3
                     case measure => have := HJ4.out; have := HK2.out; have := HK3.out; omega
                     case rel => exact ⟨(y176), (x10_2), (wrap64 (x11_2 + 1)), (by first|rfl|(simp; done)|(simp [*]; done)), (by first|rfl|(simp; done)|(simp [*]; done)), H', ⟨by have := HJ4.out; have := HK2.out; have := HK3.out; omega⟩, ⟨by (with_reducible repeat (first|apply Kd.N_alloc|apply Kd.N_drewN|apply Kd.N_drew)); exact HO178.out⟩, ⟨by repeat (first|(with_reducible first|exact HB.out|apply bA|apply bN|apply bD)|exact HB.out)⟩⟩
                   ·rw [if_neg c52] at H
                    exact absurd H (by simp)
                  ·rw [if_neg c51] at H
                   exact absurd H (by simp)
                 ·rw [if_neg c50] at H
                  exact absurd H (by simp)
                ·rw [if_neg c49] at H
                 exact absurd H (by simp)
               ·rw [if_neg c48] at H
                exact absurd H (by simp)
              ·rw [if_neg c47] at H
               exact absurd H (by simp)
          ·rw [if_neg c21] at H
           exact absurd H (by simp)
         ·rw [if_neg c20] at H
          exact absurd H (by simp)
        ·rw [if_neg c19] at H
         have c19b0 : decide (x11_2 ≤ a3) = false := decide_eq_false c19
         clear c19
         obtain ⟨y189, hy189⟩ : ∃ y_ : List Int, y_ = (([a2] : List Int)) := ⟨_, rfl⟩
         replace H : (impl_BestTour.l3 k2 l0 l1 x9_2 y189 x10_2) = some r := by first|(rw [hy189]; with_reducible exact H)|(have H2_ := (Option.bind_some _ _).symm.trans H; rw [hy189]; with_reducible exact H2_)|(have H2_ := (Option.bind_some _ _).symm.trans H; with_reducible exact H2_)|with_reducible exact H|(rw [hy189]; exact H)|exact H
         have Ny189 := Aside0.mk hy189
         clear hy189
         have H' := Aside0.mk H
         clear H
         go_wp2_with (first|((with_reducible refine gate_dst (N:=115) rfl ?_);(try (refine gate_guard (by rfl) ?_;dsimp only));refine Kd.R_lit (Kd.int .i64) _ 3 ?hg (N:=115) ?hd (xs:=([a2] : List Int)) (inner:=[.int .i64 a2]) (ok:=fun _ => True) (okp:=fun _ => True) ?hr ?hp (fun _ hk => hk) trivial (Below.refl _ _) (Nat.le_refl _) (by simp) ?_;(case hd => rfl);(case hg => rfl);(case hr => first|(go_simp;done)|(go_simp;rfl));(case hp => exact (Reps.one (show Kd.M (Kd.int .i64) _ _ _ a2 [.int .i64 a2] from rfl) (Reps.none _ _)));intro v190 w62 ho63 hb hg_ hnew_;clear hg_ hnew_;(first|rw [← Ny189.out] at ho63|(simp only [Int.reduceToNat] at ho63;rw [← Ny189.out] at ho63));have n0_:=Aside0.mk (Kd.N_elder' (by (with_reducible repeat (first|apply Kd.N_alloc|apply Kd.N_drewN|apply Kd.N_drew));exact HO_9.out) (Kd.R_base ho63) hb);have n1_:=Aside0.mk (Kd.R_lower ho63 (bS (by repeat (first|(with_reducible first|exact HB.out|apply bA|apply bN|apply bD)|exact HB.out))));have n2_:=Aside0.mk (bT (by repeat (first|(with_reducible first|exact HB.out|apply bA|apply bN|apply bD)|exact HB.out)) hb);clear HO_9;clear HB;have HO_9:=n0_;have HO191:=n1_;have HB:=n2_;clear n0_ n1_ n2_;clear hb ho63))
         go_loopg [15, 16] k2 (fun kq v15 v16 w' => ∃ (x15_3 : List Int) (x16_3 : Int), v16 = .int .i64 x16_3 ∧ Aside0 (impl_BestTour.l3 kq l0 l1 x9_2 x15_3 x16_3 = some r) ∧ Aside0 (kq ≤ k2) ∧ Aside0 (Kd.N (Kd.slice 3 (Kd.int .i64)) 22 w' w.heap.size (fun k_ => some k_ ≠ (v15 : Value).ownBlock) u9 x9_2) ∧ Aside0 (Kd.R (Kd.int .i64) 3 w' w.heap.size (fun _ => True) v15 x15_3) ∧ Aside0 (Below w.heap.size w w'))
         case atStart => exact ⟨(y189), (x10_2), (by first|rfl|(simp; done)|(simp [*]; done)), H', ⟨Nat.le_refl _⟩, ⟨by (with_reducible repeat (first|apply Kd.N_alloc|apply Kd.N_drewN|apply Kd.N_drew)); exact Kd.N_mono HO_9.out (fun _ hk => hk.2)⟩, ⟨by (with_reducible repeat first|apply rA|apply rN|apply rD); exact HO191.out⟩, ⟨by repeat (first|(with_reducible first|exact HB.out|apply bA|apply bN|apply bD)|exact HB.out)⟩⟩
         case round =>
          clear H'
          try clear c1
          try clear p1
          try clear q1
          try clear hx1
          try clear c2
          try clear p2
          try clear c3
          try clear c4
          try clear p4
          try clear q4
          try clear hx4
          try clear hf4
          try clear c5
          try clear p6
          try clear p17
          try clear q17
          try clear hx17
          try clear c18
          try clear p18
          try clear q18
          try clear hx18
          try clear c19
          try clear c19b0
          try clear c20
          try clear c21
          try clear c24
          try clear c24b0
          try clear c25
          try clear c26
          try clear c28
          try clear c30
          try clear c30b0
          try clear c31
          try clear c32
          try clear c33
          try clear c35
          try clear c35b0
          try clear c35b1
          try clear c36
          try clear c39
          try clear c40
          try clear c41
          try clear p43
          try clear q43
          try clear hx43
          try clear hf43
          try clear c47
          try clear c48
          try clear c48b0
          try clear c49
          try clear c49b0
          try clear c50
          try clear c50b0
          try clear c51
          try clear c51b0
          try clear c52
          try clear c52b0
          try clear c53
          try clear c53b0
          try clear hx179_0
          try clear hx180_0
          try clear hx181_0
          try clear hx183_0
          try clear hx43_0
          try clear p179
          try clear p180
          try clear p181
          try clear p183
          try clear p43
          try clear q179
          try clear q180
          try clear q181
          try clear q183
          try clear q43
          obtain ⟨x15_3, x16_3, rfl, HA, HK3, HO_9, HO_15, HB⟩ := hrel
          cases gk with
          | zero => exact absurd HA.out (by simp [impl_BestTour.l3])
          | succ k3 =>
           have H := HA.out
           clear HA
           simp only [impl_BestTour.l3] at H
           by_cases c64 : x16_3 > 0
           ·rw [if_pos c64] at H
            have c64b0 : decide (0 < x16_3) = true := decide_eq_true c64
            clear c64
            obtain ⟨ji65, hji65⟩ : ∃ j_ : Int, (wrap64 ((x15_3.length : Int) - 1)) = j_ := ⟨_, rfl⟩
            replace H : (if 0 ≤ (ji65) then (if (ji65) < (x15_3.length : Int) then (impl_BestTour.l4 k3 l0 l1 x9_2 x15_3 x16_3 (rd x15_3 (ji65)) (l0.length : Int) 0) else (none)) else (none)) = some r := by first|(rw [hji65] at H; exact H)|(simp only [hji65] at H ⊢; exact H)
            have hji65w : (IntKind.i64.wrap ((x15_3.length : Int) - 1)) = ji65 := (i64_w _).trans hji65
            by_cases c66 : 0 ≤ (ji65)
            ·rw [if_pos c66] at H
             have c66b0 : decide (0 ≤ (ji65)) = true := decide_eq_true c66
             clear c66
             by_cases c67 : (ji65) < (x15_3.length : Int)
             ·rw [if_pos c67] at H
              have c67b0 : decide ((ji65) < (x15_3.length : Int)) = true := decide_eq_true c67
              clear c67
              have H' := Aside0.mk H
              clear H
              obtain ⟨Ao68, co68, eo68⟩ := kS HO_15.out
              subst eo68
              have p192 : 0 ≤ ((ji65) : Int) := oD (by first|(with_reducible assumption)|assumption)
              have q192 : (ji65) < (x15_3.length : Int) := oD (by first|(with_reducible assumption)|assumption)
              obtain ⟨ad192, e192, hx192_0⟩ := aI (kR HO_15.out).2.2 (ji65) p192 q192
              cases e192
              replace p192 := eq_true p192
              replace q192 := eq_true q192
              go_wp2
              go_loopg [15, 129] k3 (fun kq v15 v129 w' => ∃ (x15_4 : List Int) (x129_4 : Int), v129 = .int .i64 x129_4 ∧ Aside0 (impl_BestTour.l4 kq l0 l1 x9_2 x15_4 x16_3 (rd x15_3 (ji65)) (l0.length : Int) x129_4 = some r) ∧ Aside0 (kq ≤ k3) ∧ Aside0 (Kd.N (Kd.slice 3 (Kd.int .i64)) 22 w' w.heap.size (fun k_ => some k_ ≠ (v15 : Value).ownBlock) u9 x9_2) ∧ Aside0 (Kd.R (Kd.int .i64) 3 w' w.heap.size (fun _ => True) v15 x15_4) ∧ Aside0 (Below w.heap.size w w'))
              case atStart => exact ⟨(x15_3), (0), (by first|rfl|(simp; done)|(simp [*]; done)), H', ⟨Nat.le_refl _⟩, ⟨by (with_reducible repeat (first|apply Kd.N_alloc|apply Kd.N_drewN|apply Kd.N_drew)); exact HO_9.out⟩, ⟨by (with_reducible repeat first|apply rA|apply rN|apply rD); exact HO_15.out⟩, ⟨by repeat (first|(with_reducible first|exact HB.out|apply bA|apply bN|apply bD)|exact HB.out)⟩⟩
              case round =>
               clear H'
               try clear c1
               try clear p1
               try clear q1
               try clear hx1
               try clear c2
               try clear p2
               try clear c3
               try clear c4
               try clear p4
               try clear q4
               try clear hx4
               try clear hf4
               try clear c5
               try clear c6
               try clear p6
               try clear p17
               try clear q17
               try clear hx17
               try clear c18
               try clear p18
               try clear q18
               try clear hx18
               try clear c19
               try clear c19b0
               try clear p19
               try clear q19
               try clear hx19
               try clear c20
               try clear c21
               try clear c24
               try clear c24b0
               try clear c25
               try clear c26
               try clear c28
               try clear c30
               try clear c30b0
               try clear c31
               try clear c32
               try clear c33
               try clear c35
               try clear c35b0
               try clear c35b1
               try clear c36
               try clear c39
               try clear c40
               try clear c41
               try clear p43
               try clear q43
               try clear hx43
               try clear hf43
               try clear c47
               try clear c48
               try clear c48b0
               try clear c49
               try clear c49b0
               try clear c50
               try clear c50b0
               try clear c51
               try clear c51b0
               try clear c52
               try clear c52b0
               try clear c53
               try clear c53b0
               try clear c64
               try clear c64b0
               try clear p64
               try clear c66
               try clear c66b0
               try clear c67
               try clear c67b0
               try clear hx179_0
               try clear hx180_0
               try clear hx181_0
               try clear hx183_0
               try clear hx192_0
               try clear hx43_0
               try clear p1
               try clear p17
               try clear p179
               try clear p18
               try clear p180
               try clear p181
               try clear p183
               try clear p192
               try clear p2
               try clear p4
               try clear p43
               try clear p6
               try clear q1
               try clear q17
               try clear q179
               try clear q18
               try clear q180
               try clear q181
               try clear q183
               try clear q192
               try clear q4
               try clear q43
               obtain ⟨x15_4, x129_4, rfl, HA, HK4, HO_9, HO_15, HB⟩ := hrel
               cases gk with
               | zero => exact absurd HA.out (by simp [impl_BestTour.l4])
               | succ k4 =>
                have H := HA.out
                clear HA
                simp only [impl_BestTour.l4] at H
                by_cases c69 : x129_4 < (l0.length : Int)
                ·rw [if_pos c69] at H
                 have c69b0 : decide (x129_4 < (l0.length : Int)) = true := decide_eq_true c69
                 clear c69
                 by_cases c70 : 0 ≤ (rd x15_3 (ji65))
                 ·rw [if_pos c70] at H
                  have c70b0 : decide (0 ≤ (rd x15_3 (ji65))) = true := decide_eq_true c70
                  clear c70
                  by_cases c71 : (rd x15_3 (ji65)) < (l0.length : Int)
                  ·rw [if_pos c71] at H
                   have c71b0 : decide ((rd x15_3 (ji65)) < (l0.length : Int)) = true := decide_eq_true c71
                   clear c71
                   by_cases c72 : 0 ≤ x129_4
                   ·rw [if_pos c72] at H
                    have c72b0 := eq_true c72
                    have c72b1 : decide (0 ≤ x129_4) = true := decide_eq_true c72
                    clear c72
                    obtain ⟨ji73, hji73⟩ : ∃ j_ : Int, (shr .i64 (rd l0 (rd x15_3 (ji65))) x129_4) = j_ := ⟨_, rfl⟩
                    replace H : (if (Go.bits .and .i64 (ji73) 1) = 1 then ((impl_rise.f l1 (rd x15_3 (ji65)) x129_4).bind fun t194 => (if 0 ≤ (wrap64 (x16_3 - 1)) then (if (wrap64 (x16_3 - 1)) < (x9_2.length : Int) then (if x129_4 < ((rd_L1 x9_2 (wrap64 (x16_3 - 1))).length : Int) then (if 0 ≤ x16_3 then (if x16_3 < (x9_2.length : Int) then (if (rd x15_3 (ji65)) < ((rd_L1 x9_2 x16_3).length : Int) then (if (wrap64 (t194 + (rd (rd_L1 x9_2 (wrap64 (x16_3 - 1))) x129_4))) = (rd (rd_L1 x9_2 x16_3) (rd x15_3 (ji65))) then (if x15_4.length < 17592186044416 then (impl_BestTour.l3 k4 l0 l1 x9_2 (x15_4 ++ [x129_4]) (wrap64 (x16_3 - 1))) else (none)) else (impl_BestTour.l4 k4 l0 l1 x9_2 x15_4 x16_3 (rd x15_3 (ji65)) (l0.length : Int) (wrap64 (x129_4 + 1)))) else (none)) else (none)) else (none)) else (none)) else (none)) else (none))) else (impl_BestTour.l4 k4 l0 l1 x9_2 x15_4 x16_3 (rd x15_3 (ji65)) (l0.length : Int) (wrap64 (x129_4 + 1)))) = some r := by first|(rw [hji73] at H; exact H)|(simp only [hji73] at H ⊢; exact H)
                    have hji73_ : ((rd l0 (rd x15_3 (ji65))) / 2 ^ min x129_4.toNat 64) = ji73 := hji73
                    have hji73z : x129_4 ≤ 64 → ((rd l0 (rd x15_3 (ji65))) / 2 ^ x129_4.toNat) = ji73 := shr_small hji73
                    by_cases c74 : (Go.bits .and .i64 (ji73) 1) = 1
                    ·rw [if_pos c74] at H
                     have c74b0 : ((Go.bits .and .i64 (ji73) 1) == 1) = true := beq_iff_eq.mpr c74
                     have c74b1 : ((Go.bits .and .i64 (ji73) 1) != 1) = false := bne_eq_false_iff_eq.mpr c74
                     clear c74
                     replace H := Option.bind_eq_some_iff.mp H
                     obtain ⟨t194, A750, H⟩ := H
                     replace H : (if 0 ≤ (wrap64 (x16_3 - 1)) then (if (wrap64 (x16_3 - 1)) < (x9_2.length : Int) then (if x129_4 < ((rd_L1 x9_2 (wrap64 (x16_3 - 1))).length : Int) then (if 0 ≤ x16_3 then (if x16_3 < (x9_2.length : Int) then (if (rd x15_3 (ji65)) < ((rd_L1 x9_2 x16_3).length : Int) then (if (wrap64 (t194 + (rd (rd_L1 x9_2 (wrap64 (x16_3 - 1))) x129_4))) = (rd (rd_L1 x9_2 x16_3) (rd x15_3 (ji65))) then (if x15_4.length < 17592186044416 then (impl_BestTour.l3 k4 l0 l1 x9_2 (x15_4 ++ [x129_4]) (wrap64 (x16_3 - 1))) else (none)) else (impl_BestTour.l4 k4 l0 l1 x9_2 x15_4 x16_3 (rd x15_3 (ji65)) (l0.length : Int) (wrap64 (x129_4 + 1)))) else (none)) else (none)) else (none)) else (none)) else (none)) else (none)) = some r := H
                     have A75 := Aside0.mk A750
                     clear A750
                     obtain ⟨ji76, hji76⟩ : ∃ j_ : Int, (wrap64 (x16_3 - 1)) = j_ := ⟨_, rfl⟩
                     replace H : (if 0 ≤ (ji76) then (if (ji76) < (x9_2.length : Int) then (if x129_4 < ((rd_L1 x9_2 (ji76)).length : Int) then (if 0 ≤ x16_3 then (if x16_3 < (x9_2.length : Int) then (if (rd x15_3 (ji65)) < ((rd_L1 x9_2 x16_3).length : Int) then (if (wrap64 (t194 + (rd (rd_L1 x9_2 (ji76)) x129_4))) = (rd (rd_L1 x9_2 x16_3) (rd x15_3 (ji65))) then (if x15_4.length < 17592186044416 then (impl_BestTour.l3 k4 l0 l1 x9_2 (x15_4 ++ [x129_4]) ji76) else (none)) else (impl_BestTour.l4 k4 l0 l1 x9_2 x15_4 x16_3 (rd x15_3 (ji65)) (l0.length : Int) (wrap64 (x129_4 + 1)))) else (none)) else (none)) else (none)) else (none)) else (none)) else (none)) = some r := by first|(rw [hji76] at H; exact H)|(simp only [hji76] at H ⊢; exact H)
                     (try rw [hji76] at A75)
                     have hji76w : (IntKind.i64.wrap (x16_3 - 1)) = ji76 := (i64_w _).trans hji76
                     by_cases c77 : 0 ≤ (ji76)
                     ·rw [if_pos c77] at H
                      have c77b0 : decide (0 ≤ (ji76)) = true := decide_eq_true c77
                      clear c77
                      by_cases c78 : (ji76) < (x9_2.length : Int)
                      ·rw [if_pos c78] at H
                       have c78b0 : decide ((ji76) < (x9_2.length : Int)) = true := decide_eq_true c78
                       clear c78
                       by_cases c79 : x129_4 < ((rd_L1 x9_2 (ji76)).length : Int)
                       ·rw [if_pos c79] at H
                        have c79b0 : decide (x129_4 < ((rd_L1 x9_2 (ji76)).length : Int)) = true := decide_eq_true c79
                        clear c79
                        by_cases c80 : 0 ≤ x16_3
                        ·rw [if_pos c80] at H
                         have c80b0 : decide (0 ≤ x16_3) = true := decide_eq_true c80
                         clear c80
                         by_cases c81 : x16_3 < (x9_2.length : Int)
                         ·rw [if_pos c81] at H
                          have c81b0 : decide (x16_3 < (x9_2.length : Int)) = true := decide_eq_true c81
                          clear c81
                          by_cases c82 : (rd x15_3 (ji65)) < ((rd_L1 x9_2 x16_3).length : Int)
                          ·rw [if_pos c82] at H
                           have c82b0 : decide ((rd x15_3 (ji65)) < ((rd_L1 x9_2 x16_3).length : Int)) = true := decide_eq_true c82
                           clear c82
                           by_cases c83 : (wrap64 (t194 + (rd (rd_L1 x9_2 (ji76)) x129_4))) = (rd (rd_L1 x9_2 x16_3) (rd x15_3 (ji65)))
                           ·rw [if_pos c83] at H
                            have c83b0 : ((wrap64 (t194 + (rd (rd_L1 x9_2 (ji76)) x129_4))) == (rd (rd_L1 x9_2 x16_3) (rd x15_3 (ji65)))) = true := beq_iff_eq.mpr c83
                            (try (have c83b0_w := c83b0; rw [← i64_w] at c83b0_w))
                            have c83b1 : ((wrap64 (t194 + (rd (rd_L1 x9_2 (ji76)) x129_4))) != (rd (rd_L1 x9_2 x16_3) (rd x15_3 (ji65)))) = false := bne_eq_false_iff_eq.mpr c83
                            (try (have c83b1_w := c83b1; rw [← i64_w] at c83b1_w))
                            clear c83
                            by_cases c84 : x15_4.length < 17592186044416
                            ·rw [if_pos c84] at H
                             have LMc84 := Aside0.mk c84
                             clear c84
                             obtain ⟨y199, hy199⟩ : ∃ y_ : List Int, y_ = (x15_4 ++ [x129_4]) := ⟨_, rfl⟩
                             replace H : (impl_BestTour.l3 k4 l0 l1 x9_2 y199 ji76) = some r := by first|(rw [hy199]; with_reducible exact H)|(have H2_ := (Option.bind_some _ _).symm.trans H; rw [hy199]; with_reducible exact H2_)|(have H2_ := (Option.bind_some _ _).symm.trans H; with_reducible exact H2_)|with_reducible exact H|(rw [hy199]; exact H)|exact H
                             have Ny199 := Aside0.mk hy199
                             clear hy199
                             have H' := Aside0.mk H
                             clear H
                             try go_wp2
                             have n0_ := Aside0.mk (Kd.N_drew HO_9.out)
                             have n1_ := Aside0.mk (Kd.R_drew HO_15.out)
                             have n2_ := Aside0.mk (below_drew1 HB.out)
                             clear HO_9
                             clear HO_15
                             clear HB
                             have HO_9 := n0_
                             have HO_15 := n1_
                             have HB := n2_
                             clear n0_ n1_ n2_
                             have p193 : 0 ≤ ((rd x15_3 (ji65)) : Int) := oD (by first|(with_reducible assumption)|assumption)
                             have q193 : (rd x15_3 (ji65)) < (l0.length : Int) := oD (by first|(with_reducible assumption)|assumption)
                             obtain ⟨ad193, e193, hx193_0⟩ := aI HR0.out (rd x15_3 (ji65)) p193 q193
                             have hw193_0 := hx193_0
                             cases e193
                             replace hx193_0 := (HB.out.cell (World.block_lt_of_cell? w _ hx193_0)).trans hx193_0
                             replace p193 := eq_true p193
                             replace q193 := eq_true q193
                             obtain ⟨Ao86, co86, eo86⟩ := Kd.N_slice HO_9.out
                             (first|subst eo86|(injection eo86 with f1_ f2_ f3_; have f4_ := f1_.symm; have f5_ := f3_.symm; clear f1_ f2_ f3_; subst f4_; subst f5_))
                             have p195 : 0 ≤ ((ji76) : Int) := oD (by first|(with_reducible assumption)|assumption)
                             have q195 : (ji76) < (x9_2.length : Int) := oD (by first|(with_reducible assumption)|assumption)
                             obtain ⟨ad195, A195_0, c195_0, e195, hx195_0, hl195_0, hi195_0⟩ := at_L1 (Kd.N_reads' HO_9.out).2.2 (ji76) p195 q195
                             cases e195
                             obtain ⟨ce195, hce195, hMe195, hcc195⟩ := Kd.N_get HO_9.out [] (ji76) p195 (by first|exact q195|exact oD (by first|(with_reducible assumption)|assumption)|(have e_ := (Kd.N_reads' HO_9.out).1; omega))
                             obtain ⟨ua195_0, uc195_0, rfl, ul195_0, ge195_0⟩ := Kd.FK_slice_open hMe195
                             have hv195_0 := hcc195 0 _ rfl
                             rw [Nat.add_zero, show ((Kd.slice 3 (Kd.int .i64))).sz = 1 from rfl, Nat.mul_one] at hv195_0
                             replace hv195_0 := Option.some.inj (hv195_0.symm.trans hx195_0)
                             injection hv195_0 with hva_ hvn_ hvc_
                             rw [hva_] at ge195_0
                             rw [hvc_] at ul195_0
                             have HL195_0 := Aside0.mk (show Kd.V (Kd.int .i64) 3 _ w.heap.size _ _ (rd_L1 x9_2 (ji76)) from Kd.V_mk ul195_0 ge195_0)
                             clear hva_ hvn_ hvc_ ge195_0 ul195_0
                             clear hcc195 hce195
                             have HR195_0 := Aside0.mk hi195_0
                             have HC195_0 := Aside0.mk hl195_0
                             clear hi195_0 hl195_0
                             replace p195 := eq_true p195
                             replace q195 := eq_true q195
                             have p196 : 0 ≤ (x129_4 : Int) := oD (by first|(with_reducible assumption)|assumption)
                             have q196 : x129_4 < ((rd_L1 x9_2 (ji76)).length : Int) := oD (by first|(with_reducible assumption)|assumption)
                             obtain ⟨ad196, e196, hx196_0⟩ := aI (by repeat (first|(with_reducible exact HR195_0.out)|(with_reducible refine Kd.C_alloc ?_ _)|(with_reducible refine Kd.C_drewN ?_ _)|(with_reducible refine Kd.C_drew ?_)|exact HR195_0.out)) x129_4 p196 q196
                             cases e196
                             replace p196 := eq_true p196
                             replace q196 := eq_true q196
                             have p197 : 0 ≤ (x16_3 : Int) := oD (by first|(with_reducible assumption)|assumption)
                             have q197 : x16_3 < (x9_2.length : Int) := oD (by first|(with_reducible assumption)|assumption)
                             obtain ⟨ad197, A197_0, c197_0, e197, hx197_0, hl197_0, hi197_0⟩ := at_L1 (Kd.N_reads' HO_9.out).2.2 x16_3 p197 q197
                             obtain rfl : ad195 = ad197 := (by injection e197)
                             obtain ⟨ce197, hce197, hMe197, hcc197⟩ := Kd.N_get HO_9.out [] x16_3 p197 (by first|exact q197|exact oD (by first|(with_reducible assumption)|assumption)|(have e_ := (Kd.N_reads' HO_9.out).1; omega))
                             obtain ⟨ua197_0, uc197_0, rfl, ul197_0, ge197_0⟩ := Kd.FK_slice_open hMe197
                             have hv197_0 := hcc197 0 _ rfl
                             rw [Nat.add_zero, show ((Kd.slice 3 (Kd.int .i64))).sz = 1 from rfl, Nat.mul_one] at hv197_0
                             replace hv197_0 := Option.some.inj (hv197_0.symm.trans hx197_0)
                             injection hv197_0 with hva_ hvn_ hvc_
                             rw [hva_] at ge197_0
                             rw [hvc_] at ul197_0
                             have HL197_0 := Aside0.mk (show Kd.V (Kd.int .i64) 3 _ w.heap.size _ _ (rd_L1 x9_2 x16_3) from Kd.V_mk ul197_0 ge197_0)
                             clear hva_ hvn_ hvc_ ge197_0 ul197_0
                             clear hcc197 hce197
                             have HR197_0 := Aside0.mk hi197_0
                             have HC197_0 := Aside0.mk hl197_0
                             clear hi197_0 hl197_0
                             replace p197 := eq_true p197
                             replace q197 := eq_true q197
                             have p198 : 0 ≤ ((rd x15_3 (ji65)) : Int) := oD (by first|(with_reducible assumption)|assumption)
                             have q198 : (rd x15_3 (ji65)) < ((rd_L1 x9_2 x16_3).length : Int) := oD (by first|(with_reducible assumption)|assumption)
                             obtain ⟨ad198, e198, hx198_0⟩ := aI (by repeat (first|(with_reducible exact HR197_0.out)|(with_reducible refine Kd.C_alloc ?_ _)|(with_reducible refine Kd.C_drewN ?_ _)|(with_reducible refine Kd.C_drew ?_)|exact HR197_0.out)) (rd x15_3 (ji65)) p198 q198
                             cases e198
                             replace p198 := eq_true p198
                             replace q198 := eq_true q198
                             refine start_ (n := 31) (S := fun w' => w'.cell? (ad193.add ((rd x15_3 (ji65))).toNat) = some (.int .i64 (rd l0 (rd x15_3 (ji65)))) ∧ w'.cell? (ad195.add ((ji76)).toNat) = some (.slice (some ad196) (rd_L1 x9_2 (ji76)).length c195_0) ∧ w'.cell? (ad196.add (x129_4).toNat) = some (.int .i64 (rd (rd_L1 x9_2 (ji76)) x129_4)) ∧ w'.cell? (ad195.add (x16_3).toNat) = some (.slice (some ad198) (rd_L1 x9_2 x16_3).length c197_0) ∧ w'.cell? (ad198.add ((rd x15_3 (ji65))).toNat) = some (.int .i64 (rd (rd_L1 x9_2 x16_3) (rd x15_3 (ji65))))) (ds := []) #[false, false, false, false, false, false, false, false, false, false, false, false, false, false, false, false, false, false, false, false, false, false, false, false, false, false, false, false, false, false, false] (by kernel_rfl) rfl rfl ⟨((HB.out.cell (World.block_lt_of_cell? w _ hw193_0)).trans hw193_0), hx195_0, hx196_0, hx197_0, hx198_0⟩ (fun hHeld => ?_); refine with_tabW impl_BestTour.tab31 impl_BestTour.bits31 (fun HT_ HW_ => ?_)
                             generalize wr.drew = w85 at HO_9 HO_15 HB HL195_0 HL197_0 HR195_0 HR197_0 hx193_0 hx195_0 hx196_0 hx197_0 hx198_0 hHeld ⊢
                             refine pure_ (i := 0) (N := some 132) (v := ?_) (a' := ?_) #[true, false, false, false, false, false, false, false, false, false, false, false, false, false, false, false, false, false, false, false, false, false, false, false, false, false, false, false, false, false, false] rfl rfl (any_of HT_.out (by kernel_rfl)) (fun _ _ _ h => h) (Or.inl ⟨by rfl, ?_⟩) ?_ ?_
                             rotate_left
                             ·intro w'
                              go_simp
                              with_reducible rfl
                             rotate_left
                             ·simp only [Act.put, lA, lZ, lS, i64_w, i32_w]
                              rfl
                             refine pure_ (i := 1) (N := some 133) (v := ?_) (a' := ?_) #[true, true, false, false, false, false, false, false, false, false, false, false, false, false, false, false, false, false, false, false, false, false, false, false, false, false, false, false, false, false, false] rfl rfl (any_of HT_.out (by kernel_rfl)) (fun _ _ _ h => h) (Or.inl ⟨by rfl, ?_⟩) ?_ ?_
                             rotate_left
                             ·intro w'
                              go_simp
                              with_reducible rfl
                             rotate_left
                             ·simp only [Act.put, lA, lZ, lS, i64_w, i32_w]
                              rfl
                             refine pure_ (i := 2) (N := some 134) (v := ?_) (a' := ?_) #[true, true, true, false, false, false, false, false, false, false, false, false, false, false, false, false, false, false, false, false, false, false, false, false, false, false, false, false, false, false, false] rfl rfl (any_of HT_.out (by kernel_rfl)) (fun _ _ _ h => h) (Or.inl ⟨by rfl, ?_⟩) ?_ ?_
                             rotate_left
                             ·intro w'
                              go_simp
                              with_reducible rfl
                             rotate_left
                             ·simp only [Act.put, lA, lZ, lS, i64_w, i32_w]
                              rfl
                             refine pure_ (i := 4) (N := some 136) (v := ?_) (a' := ?_) #[true, true, true, false, true, false, false, false, false, false, false, false, false, false, false, false, false, false, false, false, false, false, false, false, false, false, false, false, false, false, false] rfl rfl (any_of HT_.out (by kernel_rfl)) (fun _ _ _ h => h) (Or.inl ⟨by rfl, ?_⟩) ?_ ?_
                             rotate_left
                             ·intro w'
                              go_simp
                              with_reducible rfl
                             rotate_left
                             ·simp only [Act.put, lA, lZ, lS, i64_w, i32_w]
                              rfl
                             refine take_ (i := 3) (N := some 135) (v := ?_) (a' := ?_) #[true, true, true, true, true, false, false, false, false, false, false, false, false, false, false, false, false, false, false, false, false, false, false, false, false, false, false, false, false, false, false] rfl rfl (take_ofW HT_.out HW_.out (by kernel_rfl)) (fun _ _ _ h => h) (Or.inl ⟨by rfl, ?_⟩) hHeld ?_ ?_
                             rotate_left
                             ·rintro w' ⟨s0, s1, s2, s3, s4⟩
                              go_simp
                              with_reducible rfl
                             rotate_left
                             ·simp only [Act.put, lA, lZ, lS, i64_w, i32_w]
                              rfl
                             refine pure_ (i := 5) (N := some 137) (v := ?_) (a' := ?_) #[true, true, true, true, true, true, false, false, false, false, false, false, false, false, false, false, false, false, false, false, false, false, false, false, false, false, false, false, false, false, false] rfl rfl (any_of HT_.out (by kernel_rfl)) (fun _ _ _ h => h) (Or.inl ⟨by rfl, ?_⟩) ?_ ?_
                             rotate_left
                             ·intro w'
                              go_simp
                              with_reducible rfl
                             rotate_left
                             ·simp only [Act.put, lA, lZ, lS, i64_w, i32_w]
                              rfl
                             refine pure_ (i := 6) (N := some 138) (v := ?_) (a' := ?_) #[true, true, true, true, true, true, true, false, false, false, false, false, false, false, false, false, false, false, false, false, false, false, false, false, false, false, false, false, false, false, false] rfl rfl (any_of HT_.out (by kernel_rfl)) (fun _ _ _ h => h) (Or.inl ⟨by rfl, ?_⟩) ?_ ?_
                             rotate_left
                             ·intro w'
                              go_simp
                              with_reducible rfl
                             rotate_left
                             ·simp only [Act.put, lA, lZ, lS, i64_w, i32_w]
                              rfl
                             refine pure_ (i := 7) (N := some 139) (v := ?_) (a' := ?_) #[true, true, true, true, true, true, true, true, false, false, false, false, false, false, false, false, false, false, false, false, false, false, false, false, false, false, false, false, false, false, false] rfl rfl (any_of HT_.out (by kernel_rfl)) (fun _ _ _ h => h) (Or.inl ⟨by rfl, ?_⟩) ?_ ?_
                             rotate_left
                             ·intro w'
                              go_simp
                              with_reducible rfl
                             rotate_left
                             ·simp only [Act.put, lA, lZ, lS, i64_w, i32_w]
                              rfl
                             refine pure_ (i := 8) (N := some 140) (v := ?_) (a' := ?_) #[true, true, true, true, true, true, true, true, true, false, false, false, false, false, false, false, false, false, false, false, false, false, false, false, false, false, false, false, false, false, false] rfl rfl (any_of HT_.out (by kernel_rfl)) (fun _ _ _ h => h) (Or.inl ⟨by rfl, ?_⟩) ?_ ?_
                             rotate_left
                             ·intro w'
                              go_simp
                              with_reducible rfl
                             rotate_left
                             ·simp only [Act.put, lA, lZ, lS, i64_w, i32_w]
                              rfl
                             refine pure_ (i := 9) (N := some 141) (v := ?_) (a' := ?_) #[true, true, true, true, true, true, true, true, true, true, false, false, false, false, false, false, false, false, false, false, false, false, false, false, false, false, false, false, false, false, false] rfl rfl (any_of HT_.out (by kernel_rfl)) (fun _ _ _ h => h) (Or.inl ⟨by rfl, ?_⟩) ?_ ?_
                             rotate_left
                             ·intro w'
                              go_simp
                              with_reducible rfl
                             rotate_left
                             ·simp only [Act.put, lA, lZ, lS, i64_w, i32_w]
                              rfl
                             refine pure_ (i := 10) (N := some 142) (v := ?_) (a' := ?_) #[true, true, true, true, true, true, true, true, true, true, true, false, false, false, false, false, false, false, false, false, false, false, false, false, false, false, false, false, false, false, false] rfl rfl (any_of HT_.out (by kernel_rfl)) (fun _ _ _ h => h) (Or.inl ⟨by rfl, ?_⟩) ?_ ?_
                             rotate_left
                             ·intro w'
                              go_simp
                              with_reducible rfl
                             rotate_left
                             ·simp only [Act.put, lA, lZ, lS, i64_w, i32_w]
                              rfl
                             refine pure_ (i := 11) (N := some 143) (v := ?_) (a' := ?_) #[true, true, true, true, true, true, true, true, true, true, true, true, false, false, false, false, false, false, false, false, false, false, false, false, false, false, false, false, false, false, false] rfl rfl (any_of HT_.out (by kernel_rfl)) (fun _ _ _ h => h) (Or.inl ⟨by rfl, ?_⟩) ?_ ?_
                             rotate_left
                             ·intro w'
                              go_simp
                              with_reducible rfl
                             rotate_left
                             ·simp only [Act.put, lA, lZ, lS, i64_w, i32_w]
                              rfl
                             refine pure_ (i := 13) (N := some 145) (v := ?_) (a' := ?_) #[true, true, true, true, true, true, true, true, true, true, true, true, false, true, false, false, false, false, false, false, false, false, false, false, false, false, false, false, false, false, false] rfl rfl (any_of HT_.out (by kernel_rfl)) (fun _ _ _ h => h) (Or.inl ⟨by rfl, ?_⟩) ?_ ?_
                             rotate_left
                             ·intro w'
                              go_simp
                              with_reducible rfl
                             rotate_left
                             ·simp only [Act.put, lA, lZ, lS, i64_w, i32_w]
                              rfl
                             refine pure_ (i := 14) (N := some 146) (v := ?_) (a' := ?_) #[true, true, true, true, true, true, true, true, true, true, true, true, false, true, true, false, false, false, false, false, false, false, false, false, false, false, false, false, false, false, false] rfl rfl (any_of HT_.out (by kernel_rfl)) (fun _ _ _ h => h) (Or.inl ⟨by rfl, ?_⟩) ?_ ?_
                             rotate_left
                             ·intro w'
                              go_simp
                              with_reducible rfl
                             rotate_left
                             ·simp only [Act.put, lA, lZ, lS, i64_w, i32_w]
                              rfl
                             refine pure_ (i := 15) (N := some 147) (v := ?_) (a' := ?_) #[true, true, true, true, true, true, true, true, true, true, true, true, false, true, true, true, false, false, false, false, false, false, false, false, false, false, false, false, false, false, false] rfl rfl (any_of HT_.out (by kernel_rfl)) (fun _ _ _ h => h) (Or.inl ⟨by rfl, ?_⟩) ?_ ?_
                             rotate_left
                             ·intro w'
                              go_simp
                              with_reducible rfl
                             rotate_left
                             ·simp only [Act.put, lA, lZ, lS, i64_w, i32_w]
                              rfl
                             refine pure_ (i := 16) (N := some 148) (v := ?_) (a' := ?_) #[true, true, true, true, true, true, true, true, true, true, true, true, false, true, true, true, true, false, false, false, false, false, false, false, false, false, false, false, false, false, false] rfl rfl (any_of HT_.out (by kernel_rfl)) (fun _ _ _ h => h) (Or.inl ⟨by rfl, ?_⟩) ?_ ?_
                             rotate_left
                             ·intro w'
                              go_simp
                              with_reducible rfl
                             rotate_left
                             ·simp only [Act.put, lA, lZ, lS, i64_w, i32_w]
                              rfl
                             refine pure_ (i := 18) (N := some 150) (v := ?_) (a' := ?_) #[true, true, true, true, true, true, true, true, true, true, true, true, false, true, true, true, true, false, true, false, false, false, false, false, false, false, false, false, false, false, false] rfl rfl (any_of HT_.out (by kernel_rfl)) (fun _ _ _ h => h) (Or.inl ⟨by rfl, ?_⟩) ?_ ?_
                             rotate_left
                             ·intro w'
                              go_simp
                              with_reducible rfl
                             rotate_left
                             ·simp only [Act.put, lA, lZ, lS, i64_w, i32_w]
                              rfl
                             refine pure_ (i := 22) (N := some 154) (v := ?_) (a' := ?_) #[true, true, true, true, true, true, true, true, true, true, true, true, false, true, true, true, true, false, true, false, false, false, true, false, false, false, false, false, false, false, false] rfl rfl (any_of HT_.out (by kernel_rfl)) (fun _ _ _ h => h) (Or.inl ⟨by rfl, ?_⟩) ?_ ?_
                             rotate_left
                             ·intro w'
                              go_simp
                              with_reducible rfl
                             rotate_left
                             ·simp only [Act.put, lA, lZ, lS, i64_w, i32_w]
                              rfl
                             refine pure_ (i := 23) (N := some 155) (v := ?_) (a' := ?_) #[true, true, true, true, true, true, true, true, true, true, true, true, false, true, true, true, true, false, true, false, false, false, true, true, false, false, false, false, false, false, false] rfl rfl (any_of HT_.out (by kernel_rfl)) (fun _ _ _ h => h) (Or.inl ⟨by rfl, ?_⟩) ?_ ?_
                             rotate_left
                             ·intro w'
                              go_simp
                              with_reducible rfl
                             rotate_left
                             ·simp only [Act.put, lA, lZ, lS, i64_w, i32_w]
                              rfl
                             refine pure_ (i := 24) (N := some 156) (v := ?_) (a' := ?_) #[true, true, true, true, true, true, true, true, true, true, true, true, false, true, true, true, true, false, true, false, false, false, true, true, true, false, false, false, false, false, false] rfl rfl (any_of HT_.out (by kernel_rfl)) (fun _ _ _ h => h) (Or.inl ⟨by rfl, ?_⟩) ?_ ?_
                             rotate_left
                             ·intro w'
                              go_simp
                              with_reducible rfl
                             rotate_left
                             ·simp only [Act.put, lA, lZ, lS, i64_w, i32_w]
                              rfl
                             refine pure_ (i := 26) (N := some 158) (v := ?_) (a' := ?_) #[true, true, true, true, true, true, true, true, true, true, true, true, false, true, true, true, true, false, true, false, false, false, true, true, true, false, true, false, false, false, false] rfl rfl (any_of HT_.out (by kernel_rfl)) (fun _ _ _ h => h) (Or.inl ⟨by rfl, ?_⟩) ?_ ?_
                             rotate_left
                             ·intro w'
                              go_simp
                              with_reducible rfl
                             rotate_left
                             ·simp only [Act.put, lA, lZ, lS, i64_w, i32_w]
                              rfl
                             refine take_ (i := 17) (N := some 149) (v := ?_) (a' := ?_) #[true, true, true, true, true, true, true, true, true, true, true, true, false, true, true, true, true, true, true, false, false, false, true, true, true, false, true, false, false, false, false] rfl rfl (take_ofW HT_.out HW_.out (by kernel_rfl)) (fun _ _ _ h => h) (Or.inl ⟨by rfl, ?_⟩) hHeld ?_ ?_
                             rotate_left
                             ·rintro w' ⟨s0, s1, s2, s3, s4⟩
                              go_simp
                              with_reducible rfl
                             rotate_left
                             ·simp only [Act.put, lA, lZ, lS, i64_w, i32_w]
                              rfl
                             refine pure_ (i := 19) (N := some 151) (v := ?_) (a' := ?_) #[true, true, true, true, true, true, true, true, true, true, true, true, false, true, true, true, true, true, true, true, false, false, true, true, true, false, true, false, false, false, false] rfl rfl (any_of HT_.out (by kernel_rfl)) (fun _ _ _ h => h) (Or.inl ⟨by rfl, ?_⟩) ?_ ?_
                             rotate_left
                             ·intro w'
                              go_simp
                              with_reducible rfl
                             rotate_left
                             ·simp only [Act.put, lA, lZ, lS, i64_w, i32_w]
                              rfl
                             refine take_ (i := 20) (N := some 152) (v := ?_) (a' := ?_) #[true, true, true, true, true, true, true, true, true, true, true, true, false, true, true, true, true, true, true, true, true, false, true, true, true, false, true, false, false, false, false] rfl rfl (take_ofW HT_.out HW_.out (by kernel_rfl)) (fun _ _ _ h => h) (Or.inl ⟨by rfl, ?_⟩) hHeld ?_ ?_
                             rotate_left
                             ·rintro w' ⟨s0, s1, s2, s3, s4⟩
                              go_simp
                              with_reducible rfl
                             rotate_left
                             ·simp only [Act.put, lA, lZ, lS, i64_w, i32_w]
                              rfl
                             refine take_ (i := 25) (N := some 157) (v := ?_) (a' := ?_) #[true, true, true, true, true, true, true, true, true, true, true, true, false, true, true, true, true, true, true, true, true, false, true, true, true, true, true, false, false, false, false] rfl rfl (take_ofW HT_.out HW_.out (by kernel_rfl)) (fun _ _ _ h => h) (Or.inl ⟨by rfl, ?_⟩) hHeld ?_ ?_
                             rotate_left
                             ·rintro w' ⟨s0, s1, s2, s3, s4⟩
                              go_simp
                              with_reducible rfl
                             rotate_left
                             ·simp only [Act.put, lA, lZ, lS, i64_w, i32_w]
                              rfl
                             refine pure_ (i := 27) (N := some 159) (v := ?_) (a' := ?_) #[true, true, true, true, true, true, true, true, true, true, true, true, false, true, true, true, true, true, true, true, true, false, true, true, true, true, true, true, false, false, false] rfl rfl (any_of HT_.out (by kernel_rfl)) (fun _ _ _ h => h) (Or.inl ⟨by rfl, ?_⟩) ?_ ?_
                             rotate_left
                             ·intro w'
                              go_simp
                              with_reducible rfl
                             rotate_left
                             ·simp only [Act.put, lA, lZ, lS, i64_w, i32_w]
                              rfl
                             refine take_ (i := 28) (N := some 160) (v := ?_) (a' := ?_) #[true, true, true, true, true, true, true, true, true, true, true, true, false, true, true, true, true, true, true, true, true, false, true, true, true, true, true, true, true, false, false] rfl rfl (take_ofW HT_.out HW_.out (by kernel_rfl)) (fun _ _ _ h => h) (Or.inl ⟨by rfl, ?_⟩) hHeld ?_ ?_
                             rotate_left
                             ·rintro w' ⟨s0, s1, s2, s3, s4⟩
                              go_simp
                              with_reducible rfl
                             rotate_left
                             ·simp only [Act.put, lA, lZ, lS, i64_w, i32_w]
                              rfl
                             refine one_ (i := 12) (N := some 144) #[true, true, true, true, true, true, true, true, true, true, true, true, true, true, true, true, true, true, true, true, true, false, true, true, true, true, true, true, true, false, false] rfl rfl (one_of HT_.out (by kernel_rfl)) (by decide) (fun K hK => ?_)
                             refine goes_ Try.func28 (by kernel_rfl) rfl #[.slice A1 l1.length c1, .int .i64 (rd x15_3 (ji65)), .int .i64 x129_4] (by rfl) rfl rfl (by (try simp only [List.map_toArray, List.map_cons, List.map_nil]); first|done|(simp only [hji65]; rfl)|rfl|(simp only [List.length_drop, List.length_take]; rfl)) ?_
                             with_reducible refine (impl_rise.calls _ _ l1 (rd x15_3 (ji65)) x129_4 t194 _ ?side1 ?side2 A75.out).mono ?_
                             (case side1 => repeat (first|exact (Kd.C_below HR1.out HB.out)|(with_reducible first|refine cA ?_ _|refine cN ?_ _|refine cD ?_)))
                             (case side2 => exact HC1.out)
                             rintro e w' ⟨rfl, ⟨nd, rfl⟩⟩
                             refine ⟨_, rfl, ?_⟩
                             refine hK.out _ _ ⟨((HB.out.cell (World.block_lt_of_cell? w _ hw193_0)).trans hw193_0), hHeld.2.1, hHeld.2.2.1, hHeld.2.2.2.1, hHeld.2.2.2.2⟩ (fun hHeld => ?_)
                             clear hK K
                             refine norm_ (a' := ?_) ?_ ?_
                             rotate_left
                             ·show Act.put _ (some 144) _ = _
                              simp only [Act.put, lA, lZ, lS, i64_w, i32_w]
                              rfl
                             refine pure_ (i := 21) (N := some 153) (v := ?_) (a' := ?_) #[true, true, true, true, true, true, true, true, true, true, true, true, true, true, true, true, true, true, true, true, true, true, true, true, true, true, true, true, true, false, false] rfl rfl (any_of HT_.out (by kernel_rfl)) (fun _ _ _ h => h) (Or.inl ⟨by rfl, ?_⟩) ?_ ?_
                             rotate_left
                             ·intro w'
                              go_simp
                              with_reducible rfl
                             rotate_left
                             ·simp only [Act.put, lA, lZ, lS, i64_w, i32_w]
                              rfl
                             refine pure_ (i := 29) (N := some 161) (v := ?_) (a' := ?_) #[true, true, true, true, true, true, true, true, true, true, true, true, true, true, true, true, true, true, true, true, true, true, true, true, true, true, true, true, true, true, false] rfl rfl (any_of HT_.out (by kernel_rfl)) (fun _ _ _ h => h) (Or.inl ⟨by rfl, ?_⟩) ?_ ?_
                             rotate_left
                             ·intro w'
                              go_simp
                              with_reducible rfl
                             rotate_left
                             ·simp only [Act.put, lA, lZ, lS, i64_w, i32_w]
                              rfl
                             refine pure_ (i := 30) (N := some 162) (v := ?_) (a' := ?_) #[true, true, true, true, true, true, true, true, true, true, true, true, true, true, true, true, true, true, true, true, true, true, true, true, true, true, true, true, true, true, true] rfl rfl (any_of HT_.out (by kernel_rfl)) (fun _ _ _ h => h) (Or.inl ⟨by rfl, ?_⟩) ?_ ?_
                             rotate_left
                             ·intro w'
                              go_simp
                              with_reducible rfl
                             rotate_left
                             ·simp only [Act.put, lA, lZ, lS, i64_w, i32_w]
                              rfl
                             refine done_ (done_of HT_.out (by kernel_rfl)) ?_
                             try go_wp2_with (first|((with_reducible refine gate_builtin (b:=.append) (xs:=#[.tmp 163,.tmp 165]) rfl ?_);(try (refine gate_guard (by rfl) ?_;dsimp only));at_builtin;refine Kd.R_append (Kd.int .i64) (w0:=w) w.heap.size rfl (.tmp 163) (.tmp 165) 22 3 (.int .i64 0) 8 rfl Try.underlying22 info3 rfl (by decide) (by omega) u15 x15_4 x129_4 [.int .i64 x129_4] (fun _ => True) (fun _ => False) rfl rfl ?aP (fun _ hk => hk.elim) ?aF ?aO ?aB ?aS ?aL ?_;(case aP => exact rfl);(case aB => exact (by repeat (first|(with_reducible first|exact HB.out|apply bA|apply bN|apply bD)|exact HB.out)));(case aF => exact (fun _ _ => trivial));(case aO => exact (by (with_reducible repeat first|apply rA|apply rN|apply rD);exact HO_15.out));(case aS => exact (bS (by repeat (first|(with_reducible first|exact HB.out|apply bA|apply bN|apply bD)|exact HB.out))));(case aL => have:=LMc84.out;omega);intro v200 w87 ho hb hg hat;rw [← Ny199.out] at ho;have n0_:=Aside0.mk (Kd.N_afterv (ok:=(fun _ => True)) (by (with_reducible repeat (first|apply Kd.N_alloc|apply Kd.N_drewN|apply Kd.N_drew));exact Kd.N_mono HO_9.out (fun _ hk => ⟨trivial,hk⟩)) hg hat);have n1_:=Aside0.mk (Kd.V_afterv (ok:=(fun k_ => some k_ ≠ (.slice (some ad195) x9_2.length co86 : Value).ownBlock)) (by (with_reducible repeat (first|apply Kd.V_alloc|apply Kd.V_drewN|apply Kd.V_drew));exact Kd.V_mono HL195_0.out (fun _ hk => ⟨hk.2,hk.1⟩)) hg hat);have n2_:=Aside0.mk (Kd.V_afterv (ok:=(fun k_ => some k_ ≠ (.slice (some ad195) x9_2.length co86 : Value).ownBlock)) (by (with_reducible repeat (first|apply Kd.V_alloc|apply Kd.V_drewN|apply Kd.V_drew));exact Kd.V_mono HL197_0.out (fun _ hk => ⟨hk.2,hk.1⟩)) hg hat);have n3_:=Aside0.mk (hb);have n4_:=Aside0.mk (ho);clear HO_9;clear HL195_0;clear HL197_0;clear HB;clear HO_15;have HO_9:=n0_;have HL195_0:=n1_;have HL197_0:=n2_;have HB:=n3_;have HO201:=n4_;clear n0_ n1_ n2_ n3_ n4_;clear ho hb hg hat))
                             go_roundg k4
                             case measure => have := HJ4.out; have := HK2.out; have := HK3.out; have := HK4.out; omega
                             case rel => exact ⟨(y199), (ji76), (by first|rfl|(simp; done)|(simp only [← hji76] <;> (first|rfl|simp))|(simp [*]; done)), H', ⟨by have := HJ4.out; have := HK2.out; have := HK3.out; have := HK4.out; omega⟩, ⟨by (with_reducible repeat (first|apply Kd.N_alloc|apply Kd.N_drewN|apply Kd.N_drew)); exact Kd.N_mono HO_9.out (fun _ hk => hk.2)⟩, ⟨by (with_reducible repeat first|apply rA|apply rN|apply rD); exact HO201.out⟩, ⟨by repeat (first|(with_reducible first|exact HB.out|apply bA|apply bN|apply bD)|exact HB.out)⟩⟩
                            ·rw [if_neg c84] at H
                             exact absurd H (by simp)
                           ·rw [if_neg c83] at H
                            have c83b0 : ((wrap64 (t194 + (rd (rd_L1 x9_2 (ji76)) x129_4))) == (rd (rd_L1 x9_2 x16_3) (rd x15_3 (ji65)))) = false := beq_eq_false_iff_ne.mpr c83
                            (try (have c83b0_w := c83b0; rw [← i64_w] at c83b0_w))
                            have c83b1 : ((wrap64 (t194 + (rd (rd_L1 x9_2 (ji76)) x129_4))) != (rd (rd_L1 x9_2 x16_3) (rd x15_3 (ji65)))) = true := bne_iff_ne.mpr c83
                            (try (have c83b1_w := c83b1; rw [← i64_w] at c83b1_w))
                            have H' := Aside0.mk H
                            clear H
                            try go_wp2
                            have n0_ := Aside0.mk (Kd.N_drew HO_9.out)
                            have n1_ := Aside0.mk (Kd.R_drew HO_15.out)
                            have n2_ := Aside0.mk (below_drew1 HB.out)
                            clear HO_9
                            clear HO_15
                            clear HB
                            have HO_9 := n0_
                            have HO_15 := n1_
                            have HB := n2_
                            clear n0_ n1_ n2_
                            have p193 : 0 ≤ ((rd x15_3 (ji65)) : Int) := oD (by first|(with_reducible assumption)|assumption)
                            have q193 : (rd x15_3 (ji65)) < (l0.length : Int) := oD (by first|(with_reducible assumption)|assumption)
                            obtain ⟨ad193, e193, hx193_0⟩ := aI HR0.out (rd x15_3 (ji65)) p193 q193
                            have hw193_0 := hx193_0
                            cases e193
                            replace hx193_0 := (HB.out.cell (World.block_lt_of_cell? w _ hx193_0)).trans hx193_0
                            replace p193 := eq_true p193
                            replace q193 := eq_true q193
                            obtain ⟨Ao89, co89, eo89⟩ := Kd.N_slice HO_9.out
                            (first|subst eo89|(injection eo89 with f1_ f2_ f3_; have f4_ := f1_.symm; have f5_ := f3_.symm; clear f1_ f2_ f3_; subst f4_; subst f5_))
                            have p195 : 0 ≤ ((ji76) : Int) := oD (by first|(with_reducible assumption)|assumption)
                            have q195 : (ji76) < (x9_2.length : Int) := oD (by first|(with_reducible assumption)|assumption)
                            obtain ⟨ad195, A195_0, c195_0, e195, hx195_0, hl195_0, hi195_0⟩ := at_L1 (Kd.N_reads' HO_9.out).2.2 (ji76) p195 q195
                            cases e195
                            obtain ⟨ce195, hce195, hMe195, hcc195⟩ := Kd.N_get HO_9.out [] (ji76) p195 (by first|exact q195|exact oD (by first|(with_reducible assumption)|assumption)|(have e_ := (Kd.N_reads' HO_9.out).1; omega))
                            obtain ⟨ua195_0, uc195_0, rfl, ul195_0, ge195_0⟩ := Kd.FK_slice_open hMe195
                            have hv195_0 := hcc195 0 _ rfl
                            rw [Nat.add_zero, show ((Kd.slice 3 (Kd.int .i64))).sz = 1 from rfl, Nat.mul_one] at hv195_0
                            replace hv195_0 := Option.some.inj (hv195_0.symm.trans hx195_0)
                            injection hv195_0 with hva_ hvn_ hvc_
                            rw [hva_] at ge195_0
                            rw [hvc_] at ul195_0
                            have HL195_0 := Aside0.mk (show Kd.V (Kd.int .i64) 3 _ w.heap.size _ _ (rd_L1 x9_2 (ji76)) from Kd.V_mk ul195_0 ge195_0)
                            clear hva_ hvn_ hvc_ ge195_0 ul195_0
                            clear hcc195 hce195
                            have HR195_0 := Aside0.mk hi195_0
                            have HC195_0 := Aside0.mk hl195_0
                            clear hi195_0 hl195_0
                            replace p195 := eq_true p195
                            replace q195 := eq_true q195
                            have p196 : 0 ≤ (x129_4 : Int) := oD (by first|(with_reducible assumption)|assumption)
                            have q196 : x129_4 < ((rd_L1 x9_2 (ji76)).length : Int) := oD (by first|(with_reducible assumption)|assumption)
                            obtain ⟨ad196, e196, hx196_0⟩ := aI (by repeat (first|(with_reducible exact HR195_0.out)|(with_reducible refine Kd.C_alloc ?_ _)|(with_reducible refine Kd.C_drewN ?_ _)|(with_reducible refine Kd.C_drew ?_)|exact HR195_0.out)) x129_4 p196 q196
                            cases e196
                            replace p196 := eq_true p196
                            replace q196 := eq_true q196
                            have p197 : 0 ≤ (x16_3 : Int) := oD (by first|(with_reducible assumption)|assumption)
                            have q197 : x16_3 < (x9_2.length : Int) := oD (by first|(with_reducible assumption)|assumption)
                            obtain ⟨ad197, A197_0, c197_0, e197, hx197_0, hl197_0, hi197_0⟩ := at_L1 (Kd.N_reads' HO_9.out).2.2 x16_3 p197 q197
                            obtain rfl : ad195 = ad197 := (by injection e197)
                            obtain ⟨ce197, hce197, hMe197, hcc197⟩ := Kd.N_get HO_9.out [] x16_3 p197 (by first|exact q197|exact oD (by first|(with_reducible assumption)|assumption)|(have e_ := (Kd.N_reads' HO_9.out).1; omega))
                            obtain ⟨ua197_0, uc197_0, rfl, ul197_0, ge197_0⟩ := Kd.FK_slice_open hMe197
                            have hv197_0 := hcc197 0 _ rfl
                            rw [Nat.add_zero, show ((Kd.slice 3 (Kd.int .i64))).sz = 1 from rfl, Nat.mul_one] at hv197_0
                            replace hv197_0 := Option.some.inj (hv197_0.symm.trans hx197_0)
                            injection hv197_0 with hva_ hvn_ hvc_
                            rw [hva_] at ge197_0
                            rw [hvc_] at ul197_0
                            have HL197_0 := Aside0.mk (show Kd.V (Kd.int .i64) 3 _ w.heap.size _ _ (rd_L1 x9_2 x16_3) from Kd.V_mk ul197_0 ge197_0)
                            clear hva_ hvn_ hvc_ ge197_0 ul197_0
                            clear hcc197 hce197
                            have HR197_0 := Aside0.mk hi197_0
                            have HC197_0 := Aside0.mk hl197_0
                            clear hi197_0 hl197_0
                            replace p197 := eq_true p197
                            replace q197 := eq_true q197
                            have p198 : 0 ≤ ((rd x15_3 (ji65)) : Int) := oD (by first|(with_reducible assumption)|assumption)
                            have q198 : (rd x15_3 (ji65)) < ((rd_L1 x9_2 x16_3).length : Int) := oD (by first|(with_reducible assumption)|assumption)
                            obtain ⟨ad198, e198, hx198_0⟩ := aI (by repeat (first|(with_reducible exact HR197_0.out)|(with_reducible refine Kd.C_alloc ?_ _)|(with_reducible refine Kd.C_drewN ?_ _)|(with_reducible refine Kd.C_drew ?_)|exact HR197_0.out)) (rd x15_3 (ji65)) p198 q198
                            cases e198
                            replace p198 := eq_true p198
                            replace q198 := eq_true q198
                            refine start_ (n := 31) (S := fun w' => w'.cell? (ad193.add ((rd x15_3 (ji65))).toNat) = some (.int .i64 (rd l0 (rd x15_3 (ji65)))) ∧ w'.cell? (ad195.add ((ji76)).toNat) = some (.slice (some ad196) (rd_L1 x9_2 (ji76)).length c195_0) ∧ w'.cell? (ad196.add (x129_4).toNat) = some (.int .i64 (rd (rd_L1 x9_2 (ji76)) x129_4)) ∧ w'.cell? (ad195.add (x16_3).toNat) = some (.slice (some ad198) (rd_L1 x9_2 x16_3).length c197_0) ∧ w'.cell? (ad198.add ((rd x15_3 (ji65))).toNat) = some (.int .i64 (rd (rd_L1 x9_2 x16_3) (rd x15_3 (ji65))))) (ds := []) #[false, false, false, false, false, false, false, false, false, false, false, false, false, false, false, false, false, false, false, false, false, false, false, false, false, false, false, false, false, false, false] (by kernel_rfl) rfl rfl ⟨((HB.out.cell (World.block_lt_of_cell? w _ hw193_0)).trans hw193_0), hx195_0, hx196_0, hx197_0, hx198_0⟩ (fun hHeld => ?_); refine with_tabW impl_BestTour.tab31 impl_BestTour.bits31 (fun HT_ HW_ => ?_)
                            generalize wr.drew = w88 at HO_9 HO_15 HB HL195_0 HL197_0 HR195_0 HR197_0 hx193_0 hx195_0 hx196_0 hx197_0 hx198_0 hHeld ⊢
                            refine pure_ (i := 0) (N := some 132) (v := ?_) (a' := ?_) #[true, false, false, false, false, false, false, false, false, false, false, false, false, false, false, false, false, false, false, false, false, false, false, false, false, false, false, false, false, false, false] rfl rfl (any_of HT_.out (by kernel_rfl)) (fun _ _ _ h => h) (Or.inl ⟨by rfl, ?_⟩) ?_ ?_
                            rotate_left
                            ·intro w'
                             go_simp
                             with_reducible rfl
                            rotate_left
                            ·simp only [Act.put, lA, lZ, lS, i64_w, i32_w]
                             rfl
                            refine pure_ (i := 1) (N := some 133) (v := ?_) (a' := ?_) #[true, true, false, false, false, false, false, false, false, false, false, false, false, false, false, false, false, false, false, false, false, false, false, false, false, false, false, false, false, false, false] rfl rfl (any_of HT_.out (by kernel_rfl)) (fun _ _ _ h => h) (Or.inl ⟨by rfl, ?_⟩) ?_ ?_
                            rotate_left
                            ·intro w'
                             go_simp
                             with_reducible rfl
                            rotate_left
                            ·simp only [Act.put, lA, lZ, lS, i64_w, i32_w]
                             rfl
                            refine pure_ (i := 2) (N := some 134) (v := ?_) (a' := ?_) #[true, true, true, false, false, false, false, false, false, false, false, false, false, false, false, false, false, false, false, false, false, false, false, false, false, false, false, false, false, false, false] rfl rfl (any_of HT_.out (by kernel_rfl)) (fun _ _ _ h => h) (Or.inl ⟨by rfl, ?_⟩) ?_ ?_
                            rotate_left
                            ·intro w'
                             go_simp
                             with_reducible rfl
                            rotate_left
                            ·simp only [Act.put, lA, lZ, lS, i64_w, i32_w]
                             rfl
                            refine pure_ (i := 4) (N := some 136) (v := ?_) (a' := ?_) #[true, true, true, false, true, false, false, false, false, false, false, false, false, false, false, false, false, false, false, false, false, false, false, false, false, false, false, false, false, false, false] rfl rfl (any_of HT_.out (by kernel_rfl)) (fun _ _ _ h => h) (Or.inl ⟨by rfl, ?_⟩) ?_ ?_
                            rotate_left
                            ·intro w'
                             go_simp
                             with_reducible rfl
                            rotate_left
                            ·simp only [Act.put, lA, lZ, lS, i64_w, i32_w]
                             rfl
                            refine take_ (i := 3) (N := some 135) (v := ?_) (a' := ?_) #[true, true, true, true, true, false, false, false, false, false, false, false, false, false, false, false, false, false, false, false, false, false, false, false, false, false, false, false, false, false, false] rfl rfl (take_ofW HT_.out HW_.out (by kernel_rfl)) (fun _ _ _ h => h) (Or.inl ⟨by rfl, ?_⟩) hHeld ?_ ?_
                            rotate_left
                            ·rintro w' ⟨s0, s1, s2, s3, s4⟩
                             go_simp
                             with_reducible rfl
                            rotate_left
                            ·simp only [Act.put, lA, lZ, lS, i64_w, i32_w]
                             rfl
                            refine pure_ (i := 5) (N := some 137) (v := ?_) (a' := ?_) #[true, true, true, true, true, true, false, false, false, false, false, false, false, false, false, false, false, false, false, false, false, false, false, false, false, false, false, false, false, false, false] rfl rfl (any_of HT_.out (by kernel_rfl)) (fun _ _ _ h => h) (Or.inl ⟨by rfl, ?_⟩) ?_ ?_
                            rotate_left
                            ·intro w'
                             go_simp
                             with_reducible rfl
                            rotate_left
                            ·simp only [Act.put, lA, lZ, lS, i64_w, i32_w]
                             rfl
                            refine pure_ (i := 6) (N := some 138) (v := ?_) (a' := ?_) #[true, true, true, true, true, true, true, false, false, false, false, false, false, false, false, false, false, false, false, false, false, false, false, false, false, false, false, false, false, false, false] rfl rfl (any_of HT_.out (by kernel_rfl)) (fun _ _ _ h => h) (Or.inl ⟨by rfl, ?_⟩) ?_ ?_
                            rotate_left
                            ·intro w'
                             go_simp
                             with_reducible rfl
                            rotate_left
                            ·simp only [Act.put, lA, lZ, lS, i64_w, i32_w]
                             rfl
                            refine pure_ (i := 7) (N := some 139) (v := ?_) (a' := ?_) #[true, true, true, true, true, true, true, true, false, false, false, false, false, false, false, false, false, false, false, false, false, false, false, false, false, false, false, false, false, false, false] rfl rfl (any_of HT_.out (by kernel_rfl)) (fun _ _ _ h => h) (Or.inl ⟨by rfl, ?_⟩) ?_ ?_
                            rotate_left
                            ·intro w'
                             go_simp
                             with_reducible rfl
                            rotate_left
                            ·simp only [Act.put, lA, lZ, lS, i64_w, i32_w]
                             rfl
                            refine pure_ (i := 8) (N := some 140) (v := ?_) (a' := ?_) #[true, true, true, true, true, true, true, true, true, false, false, false, false, false, false, false, false, false, false, false, false, false, false, false, false, false, false, false, false, false, false] rfl rfl (any_of HT_.out (by kernel_rfl)) (fun _ _ _ h => h) (Or.inl ⟨by rfl, ?_⟩) ?_ ?_
                            rotate_left
                            ·intro w'
                             go_simp
                             with_reducible rfl
                            rotate_left
                            ·simp only [Act.put, lA, lZ, lS, i64_w, i32_w]
                             rfl
                            refine pure_ (i := 9) (N := some 141) (v := ?_) (a' := ?_) #[true, true, true, true, true, true, true, true, true, true, false, false, false, false, false, false, false, false, false, false, false, false, false, false, false, false, false, false, false, false, false] rfl rfl (any_of HT_.out (by kernel_rfl)) (fun _ _ _ h => h) (Or.inl ⟨by rfl, ?_⟩) ?_ ?_
                            rotate_left
                            ·intro w'
                             go_simp
                             with_reducible rfl
                            rotate_left
                            ·simp only [Act.put, lA, lZ, lS, i64_w, i32_w]
                             rfl
                            refine pure_ (i := 10) (N := some 142) (v := ?_) (a' := ?_) #[true, true, true, true, true, true, true, true, true, true, true, false, false, false, false, false, false, false, false, false, false, false, false, false, false, false, false, false, false, false, false] rfl rfl (any_of HT_.out (by kernel_rfl)) (fun _ _ _ h => h) (Or.inl ⟨by rfl, ?_⟩) ?_ ?_
                            rotate_left
                            ·intro w'
                             go_simp
                             with_reducible rfl
                            rotate_left
                            ·simp only [Act.put, lA, lZ, lS, i64_w, i32_w]
                             rfl
                            refine pure_ (i := 11) (N := some 143) (v := ?_) (a' := ?_) #[true, true, true, true, true, true, true, true, true, true, true, true, false, false, false, false, false, false, false, false, false, false, false, false, false, false, false, false, false, false, false] rfl rfl (any_of HT_.out (by kernel_rfl)) (fun _ _ _ h => h) (Or.inl ⟨by rfl, ?_⟩) ?_ ?_
                            rotate_left
                            ·intro w'
                             go_simp
                             with_reducible rfl
                            rotate_left
                            ·simp only [Act.put, lA, lZ, lS, i64_w, i32_w]
                             rfl
                            refine pure_ (i := 13) (N := some 145) (v := ?_) (a' := ?_) #[true, true, true, true, true, true, true, true, true, true, true, true, false, true, false, false, false, false, false, false, false, false, false, false, false, false, false, false, false, false, false] rfl rfl (any_of HT_.out (by kernel_rfl)) (fun _ _ _ h => h) (Or.inl ⟨by rfl, ?_⟩) ?_ ?_
                            rotate_left
                            ·intro w'
                             go_simp
                             with_reducible rfl
                            rotate_left
                            ·simp only [Act.put, lA, lZ, lS, i64_w, i32_w]
                             rfl
                            refine pure_ (i := 14) (N := some 146) (v := ?_) (a' := ?_) #[true, true, true, true, true, true, true, true, true, true, true, true, false, true, true, false, false, false, false, false, false, false, false, false, false, false, false, false, false, false, false] rfl rfl (any_of HT_.out (by kernel_rfl)) (fun _ _ _ h => h) (Or.inl ⟨by rfl, ?_⟩) ?_ ?_
                            rotate_left
                            ·intro w'
                             go_simp
                             with_reducible rfl
                            rotate_left
                            ·simp only [Act.put, lA, lZ, lS, i64_w, i32_w]
                             rfl
                            refine pure_ (i := 15) (N := some 147) (v := ?_) (a' := ?_) #[true, true, true, true, true, true, true, true, true, true, true, true, false, true, true, true, false, false, false, false, false, false, false, false, false, false, false, false, false, false, false] rfl rfl (any_of HT_.out (by kernel_rfl)) (fun _ _ _ h => h) (Or.inl ⟨by rfl, ?_⟩) ?_ ?_
                            rotate_left
                            ·intro w'
                             go_simp
                             with_reducible rfl
                            rotate_left
                            ·simp only [Act.put, lA, lZ, lS, i64_w, i32_w]
                             rfl
                            refine pure_ (i := 16) (N := some 148) (v := ?_) (a' := ?_) #[true, true, true, true, true, true, true, true, true, true, true, true, false, true, true, true, true, false, false, false, false, false, false, false, false, false, false, false, false, false, false] rfl rfl (any_of HT_.out (by kernel_rfl)) (fun _ _ _ h => h) (Or.inl ⟨by rfl, ?_⟩) ?_ ?_
                            rotate_left
                            ·intro w'
                             go_simp
                             with_reducible rfl
                            rotate_left
                            ·simp only [Act.put, lA, lZ, lS, i64_w, i32_w]
                             rfl
                            refine pure_ (i := 18) (N := some 150) (v := ?_) (a' := ?_) #[true, true, true, true, true, true, true, true, true, true, true, true, false, true, true, true, true, false, true, false, false, false, false, false, false, false, false, false, false, false, false] rfl rfl (any_of HT_.out (by kernel_rfl)) (fun _ _ _ h => h) (Or.inl ⟨by rfl, ?_⟩) ?_ ?_
                            rotate_left
                            ·intro w'
                             go_simp
                             with_reducible rfl
                            rotate_left
                            ·simp only [Act.put, lA, lZ, lS, i64_w, i32_w]
                             rfl
                            refine pure_ (i := 22) (N := some 154) (v := ?_) (a' := ?_) #[true, true, true, true, true, true, true, true, true, true, true, true, false, true, true, true, true, false, true, false, false, false, true, false, false, false, false, false, false, false, false] rfl rfl (any_of HT_.out (by kernel_rfl)) (fun _ _ _ h => h) (Or.inl ⟨by rfl, ?_⟩) ?_ ?_
                            rotate_left
                            ·intro w'
                             go_simp
                             with_reducible rfl
                            rotate_left
                            ·simp only [Act.put, lA, lZ, lS, i64_w, i32_w]
                             rfl
                            refine pure_ (i := 23) (N := some 155) (v := ?_) (a' := ?_) #[true, true, true, true, true, true, true, true, true, true, true, true, false, true, true, true, true, false, true, false, false, false, true, true, false, false, false, false, false, false, false] rfl rfl (any_of HT_.out (by kernel_rfl)) (fun _ _ _ h => h) (Or.inl ⟨by rfl, ?_⟩) ?_ ?_
                            rotate_left
                            ·intro w'
                             go_simp
                             with_reducible rfl
                            rotate_left
                            ·simp only [Act.put, lA, lZ, lS, i64_w, i32_w]
                             rfl
                            refine pure_ (i := 24) (N := some 156) (v := ?_) (a' := ?_) #[true, true, true, true, true, true, true, true, true, true, true, true, false, true, true, true, true, false, true, false, false, false, true, true, true, false, false, false, false, false, false] rfl rfl (any_of HT_.out (by kernel_rfl)) (fun _ _ _ h => h) (Or.inl ⟨by rfl, ?_⟩) ?_ ?_
                            rotate_left
                            ·intro w'
                             go_simp
                             with_reducible rfl
                            rotate_left
                            ·simp only [Act.put, lA, lZ, lS, i64_w, i32_w]
                             rfl
                            refine pure_ (i := 26) (N := some 158) (v := ?_) (a' := ?_) #[true, true, true, true, true, true, true, true, true, true, true, true, false, true, true, true, true, false, true, false, false, false, true, true, true, false, true, false, false, false, false] rfl rfl (any_of HT_.out (by kernel_rfl)) (fun _ _ _ h => h) (Or.inl ⟨by rfl, ?_⟩) ?_ ?_
                            rotate_left
                            ·intro w'
                             go_simp
                             with_reducible rfl
                            rotate_left
                            ·simp only [Act.put, lA, lZ, lS, i64_w, i32_w]
                             rfl
                            refine take_ (i := 17) (N := some 149) (v := ?_) (a' := ?_) #[true, true, true, true, true, true, true, true, true, true, true, true, false, true, true, true, true, true, true, false, false, false, true, true, true, false, true, false, false, false, false] rfl rfl (take_ofW HT_.out HW_.out (by kernel_rfl)) (fun _ _ _ h => h) (Or.inl ⟨by rfl, ?_⟩) hHeld ?_ ?_
                            rotate_left
                            ·rintro w' ⟨s0, s1, s2, s3, s4⟩
                             go_simp
                             with_reducible rfl
                            rotate_left
                            ·simp only [Act.put, lA, lZ, lS, i64_w, i32_w]
                             rfl
                            refine pure_ (i := 19) (N := some 151) (v := ?_) (a' := ?_) #[true, true, true, true, true, true, true, true, true, true, true, true, false, true, true, true, true, true, true, true, false, false, true, true, true, false, true, false, false, false, false] rfl rfl (any_of HT_.out (by kernel_rfl)) (fun _ _ _ h => h) (Or.inl ⟨by rfl, ?_⟩) ?_ ?_
                            rotate_left
                            ·intro w'
                             go_simp
                             with_reducible rfl
                            rotate_left
                            ·simp only [Act.put, lA, lZ, lS, i64_w, i32_w]
                             rfl
                            refine take_ (i := 20) (N := some 152) (v := ?_) (a' := ?_) #[true, true, true, true, true, true, true, true, true, true, true, true, false, true, true, true, true, true, true, true, true, false, true, true, true, false, true, false, false, false, false] rfl rfl (take_ofW HT_.out HW_.out (by kernel_rfl)) (fun _ _ _ h => h) (Or.inl ⟨by rfl, ?_⟩) hHeld ?_ ?_
                            rotate_left
                            ·rintro w' ⟨s0, s1, s2, s3, s4⟩
                             go_simp
                             with_reducible rfl
                            rotate_left
                            ·simp only [Act.put, lA, lZ, lS, i64_w, i32_w]
                             rfl
                            refine take_ (i := 25) (N := some 157) (v := ?_) (a' := ?_) #[true, true, true, true, true, true, true, true, true, true, true, true, false, true, true, true, true, true, true, true, true, false, true, true, true, true, true, false, false, false, false] rfl rfl (take_ofW HT_.out HW_.out (by kernel_rfl)) (fun _ _ _ h => h) (Or.inl ⟨by rfl, ?_⟩) hHeld ?_ ?_
                            rotate_left
                            ·rintro w' ⟨s0, s1, s2, s3, s4⟩
                             go_simp
                             with_reducible rfl
                            rotate_left
                            ·simp only [Act.put, lA, lZ, lS, i64_w, i32_w]
                             rfl
                            refine pure_ (i := 27) (N := some 159) (v := ?_) (a' := ?_) #[true, true, true, true, true, true, true, true, true, true, true, true, false, true, true, true, true, true, true, true, true, false, true, true, true, true, true, true, false, false, false] rfl rfl (any_of HT_.out (by kernel_rfl)) (fun _ _ _ h => h) (Or.inl ⟨by rfl, ?_⟩) ?_ ?_
                            rotate_left
                            ·intro w'
                             go_simp
                             with_reducible rfl
                            rotate_left
                            ·simp only [Act.put, lA, lZ, lS, i64_w, i32_w]
                             rfl
                            refine take_ (i := 28) (N := some 160) (v := ?_) (a' := ?_) #[true, true, true, true, true, true, true, true, true, true, true, true, false, true, true, true, true, true, true, true, true, false, true, true, true, true, true, true, true, false, false] rfl rfl (take_ofW HT_.out HW_.out (by kernel_rfl)) (fun _ _ _ h => h) (Or.inl ⟨by rfl, ?_⟩) hHeld ?_ ?_
                            rotate_left
                            ·rintro w' ⟨s0, s1, s2, s3, s4⟩
                             go_simp
                             with_reducible rfl
                            rotate_left
                            ·simp only [Act.put, lA, lZ, lS, i64_w, i32_w]
                             rfl
                            refine one_ (i := 12) (N := some 144) #[true, true, true, true, true, true, true, true, true, true, true, true, true, true, true, true, true, true, true, true, true, false, true, true, true, true, true, true, true, false, false] rfl rfl (one_of HT_.out (by kernel_rfl)) (by decide) (fun K hK => ?_)
                            refine goes_ Try.func28 (by kernel_rfl) rfl #[.slice A1 l1.length c1, .int .i64 (rd x15_3 (ji65)), .int .i64 x129_4] (by rfl) rfl rfl (by (try simp only [List.map_toArray, List.map_cons, List.map_nil]); first|done|(simp only [hji65]; rfl)|rfl|(simp only [List.length_drop, List.length_take]; rfl)) ?_
                            with_reducible refine (impl_rise.calls _ _ l1 (rd x15_3 (ji65)) x129_4 t194 _ ?side1 ?side2 A75.out).mono ?_
                            (case side1 => repeat (first|exact (Kd.C_below HR1.out HB.out)|(with_reducible first|refine cA ?_ _|refine cN ?_ _|refine cD ?_)))
                            (case side2 => exact HC1.out)
                            rintro e w' ⟨rfl, ⟨nd, rfl⟩⟩
                            refine ⟨_, rfl, ?_⟩
                            refine hK.out _ _ ⟨((HB.out.cell (World.block_lt_of_cell? w _ hw193_0)).trans hw193_0), hHeld.2.1, hHeld.2.2.1, hHeld.2.2.2.1, hHeld.2.2.2.2⟩ (fun hHeld => ?_)
                            clear hK K
                            refine norm_ (a' := ?_) ?_ ?_
                            rotate_left
                            ·show Act.put _ (some 144) _ = _
                             simp only [Act.put, lA, lZ, lS, i64_w, i32_w]
                             rfl
                            refine pure_ (i := 21) (N := some 153) (v := ?_) (a' := ?_) #[true, true, true, true, true, true, true, true, true, true, true, true, true, true, true, true, true, true, true, true, true, true, true, true, true, true, true, true, true, false, false] rfl rfl (any_of HT_.out (by kernel_rfl)) (fun _ _ _ h => h) (Or.inl ⟨by rfl, ?_⟩) ?_ ?_
                            rotate_left
                            ·intro w'
                             go_simp
                             with_reducible rfl
                            rotate_left
                            ·simp only [Act.put, lA, lZ, lS, i64_w, i32_w]
                             rfl
                            refine pure_ (i := 29) (N := some 161) (v := ?_) (a' := ?_) #[true, true, true, true, true, true, true, true, true, true, true, true, true, true, true, true, true, true, true, true, true, true, true, true, true, true, true, true, true, true, false] rfl rfl (any_of HT_.out (by kernel_rfl)) (fun _ _ _ h => h) (Or.inl ⟨by rfl, ?_⟩) ?_ ?_
                            rotate_left
                            ·intro w'
                             go_simp
                             with_reducible rfl
                            rotate_left
                            ·simp only [Act.put, lA, lZ, lS, i64_w, i32_w]
                             rfl
                            refine pure_ (i := 30) (N := some 162) (v := ?_) (a' := ?_) #[true, true, true, true, true, true, true, true, true, true, true, true, true, true, true, true, true, true, true, true, true, true, true, true, true, true, true, true, true, true, true] rfl rfl (any_of HT_.out (by kernel_rfl)) (fun _ _ _ h => h) (Or.inl ⟨by rfl, ?_⟩) ?_ ?_
                            rotate_left
                            ·intro w'
                             go_simp
                             with_reducible rfl
                            rotate_left
                            ·simp only [Act.put, lA, lZ, lS, i64_w, i32_w]
                             rfl
                            refine done_ (done_of HT_.out (by kernel_rfl)) ?_
                            try go_wp2
                            go_roundg k4
                            case measure => have := HJ4.out; have := HK2.out; have := HK3.out; have := HK4.out; omega
                            case rel => exact ⟨(x15_4), (wrap64 (x129_4 + 1)), (by first|rfl|(simp; done)|(simp [*]; done)), H', ⟨by have := HJ4.out; have := HK2.out; have := HK3.out; have := HK4.out; omega⟩, ⟨by (with_reducible repeat (first|apply Kd.N_alloc|apply Kd.N_drewN|apply Kd.N_drew)); exact HO_9.out⟩, ⟨by (with_reducible repeat first|apply rA|apply rN|apply rD); exact HO_15.out⟩, ⟨by repeat (first|(with_reducible first|exact HB.out|apply bA|apply bN|apply bD)|exact HB.out)⟩⟩
                          ·rw [if_neg c82] at H
                           exact absurd H (by simp)
                         ·rw [if_neg c81] at H
                          exact absurd H (by simp)
                        ·rw [if_neg c80] at H
                         exact absurd H (by simp)
                       ·rw [if_neg c79] at H
                        exact absurd H (by simp)
                      ·rw [if_neg c78] at H
                       exact absurd H (by simp)
                     ·rw [if_neg c77] at H
                      exact absurd H (by simp)
                    ·rw [if_neg c74] at H
                     have c74b0 : ((Go.bits .and .i64 (ji73) 1) == 1) = false := beq_eq_false_iff_ne.mpr c74
                     have c74b1 : ((Go.bits .and .i64 (ji73) 1) != 1) = true := bne_iff_ne.mpr c74
                     have H' := Aside0.mk H
                     clear H
                     try go_wp2
                     have n0_ := Aside0.mk (Kd.N_drew HO_9.out)
                     have n1_ := Aside0.mk (Kd.R_drew HO_15.out)
                     have n2_ := Aside0.mk (below_drew1 HB.out)
                     clear HO_9
                     clear HO_15
                     clear HB
                     have HO_9 := n0_
                     have HO_15 := n1_
                     have HB := n2_
                     clear n0_ n1_ n2_
                     have p193 : 0 ≤ ((rd x15_3 (ji65)) : Int) := oD (by first|(with_reducible assumption)|assumption)
                     have q193 : (rd x15_3 (ji65)) < (l0.length : Int) := oD (by first|(with_reducible assumption)|assumption)
                     obtain ⟨ad193, e193, hx193_0⟩ := aI HR0.out (rd x15_3 (ji65)) p193 q193
                     have hw193_0 := hx193_0
                     cases e193
                     replace hx193_0 := (HB.out.cell (World.block_lt_of_cell? w _ hx193_0)).trans hx193_0
                     replace p193 := eq_true p193
                     replace q193 := eq_true q193
                     refine start_ (n := 31) (S := fun w' => w'.cell? (ad193.add ((rd x15_3 (ji65))).toNat) = some (.int .i64 (rd l0 (rd x15_3 (ji65))))) (ds := []) #[false, false, false, false, false, false, false, false, false, false, false, false, false, false, false, false, false, false, false, false, false, false, false, false, false, false, false, false, false, false, false] (by kernel_rfl) rfl rfl (((HB.out.cell (World.block_lt_of_cell? w _ hw193_0)).trans hw193_0)) (fun hHeld => ?_); refine with_tabW impl_BestTour.tab31 impl_BestTour.bits31 (fun HT_ HW_ => ?_)
                     generalize wr.drew = w90 at HO_9 HO_15 HB hx193_0 hHeld ⊢
                     refine pure_ (i := 0) (N := some 132) (v := ?_) (a' := ?_) #[true, false, false, false, false, false, false, false, false, false, false, false, false, false, false, false, false, false, false, false, false, false, false, false, false, false, false, false, false, false, false] rfl rfl (any_of HT_.out (by kernel_rfl)) (fun _ _ _ h => h) (Or.inl ⟨by rfl, ?_⟩) ?_ ?_
                     rotate_left
                     ·intro w'
                      go_simp
                      with_reducible rfl
                     rotate_left
                     ·simp only [Act.put, lA, lZ, lS, i64_w, i32_w]
                      rfl
                     refine pure_ (i := 1) (N := some 133) (v := ?_) (a' := ?_) #[true, true, false, false, false, false, false, false, false, false, false, false, false, false, false, false, false, false, false, false, false, false, false, false, false, false, false, false, false, false, false] rfl rfl (any_of HT_.out (by kernel_rfl)) (fun _ _ _ h => h) (Or.inl ⟨by rfl, ?_⟩) ?_ ?_
                     rotate_left
                     ·intro w'
                      go_simp
                      with_reducible rfl
                     rotate_left
                     ·simp only [Act.put, lA, lZ, lS, i64_w, i32_w]
                      rfl
                     refine pure_ (i := 2) (N := some 134) (v := ?_) (a' := ?_) #[true, true, true, false, false, false, false, false, false, false, false, false, false, false, false, false, false, false, false, false, false, false, false, false, false, false, false, false, false, false, false] rfl rfl (any_of HT_.out (by kernel_rfl)) (fun _ _ _ h => h) (Or.inl ⟨by rfl, ?_⟩) ?_ ?_
                     rotate_left
                     ·intro w'
                      go_simp
                      with_reducible rfl
                     rotate_left
                     ·simp only [Act.put, lA, lZ, lS, i64_w, i32_w]
                      rfl
                     refine pure_ (i := 4) (N := some 136) (v := ?_) (a' := ?_) #[true, true, true, false, true, false, false, false, false, false, false, false, false, false, false, false, false, false, false, false, false, false, false, false, false, false, false, false, false, false, false] rfl rfl (any_of HT_.out (by kernel_rfl)) (fun _ _ _ h => h) (Or.inl ⟨by rfl, ?_⟩) ?_ ?_
                     rotate_left
                     ·intro w'
                      go_simp
                      with_reducible rfl
                     rotate_left
                     ·simp only [Act.put, lA, lZ, lS, i64_w, i32_w]
                      rfl
                     refine take_ (i := 3) (N := some 135) (v := ?_) (a' := ?_) #[true, true, true, true, true, false, false, false, false, false, false, false, false, false, false, false, false, false, false, false, false, false, false, false, false, false, false, false, false, false, false] rfl rfl (take_ofW HT_.out HW_.out (by kernel_rfl)) (fun _ _ _ h => h) (Or.inl ⟨by rfl, ?_⟩) hHeld ?_ ?_
                     rotate_left
                     ·intro w' s0
                      go_simp
                      with_reducible rfl
                     rotate_left
                     ·simp only [Act.put, lA, lZ, lS, i64_w, i32_w]
                      rfl
                     refine pure_ (i := 5) (N := some 137) (v := ?_) (a' := ?_) #[true, true, true, true, true, true, false, false, false, false, false, false, false, false, false, false, false, false, false, false, false, false, false, false, false, false, false, false, false, false, false] rfl rfl (any_of HT_.out (by kernel_rfl)) (fun _ _ _ h => h) (Or.inl ⟨by rfl, ?_⟩) ?_ ?_
                     rotate_left
                     ·intro w'
                      go_simp
                      with_reducible rfl
                     rotate_left
                     ·simp only [Act.put, lA, lZ, lS, i64_w, i32_w]
                      rfl
                     refine pure_ (i := 6) (N := some 138) (v := ?_) (a' := ?_) #[true, true, true, true, true, true, true, false, false, false, false, false, false, false, false, false, false, false, false, false, false, false, false, false, false, false, false, false, false, false, false] rfl rfl (any_of HT_.out (by kernel_rfl)) (fun _ _ _ h => h) (Or.inl ⟨by rfl, ?_⟩) ?_ ?_
                     rotate_left
                     ·intro w'
                      go_simp
                      with_reducible rfl
                     rotate_left
                     ·simp only [Act.put, lA, lZ, lS, i64_w, i32_w]
                      rfl
                     refine pure_ (i := 7) (N := some 139) (v := ?_) (a' := ?_) #[true, true, true, true, true, true, true, true, false, false, false, false, false, false, false, false, false, false, false, false, false, false, false, false, false, false, false, false, false, false, false] rfl rfl (any_of HT_.out (by kernel_rfl)) (fun _ _ _ h => h) (Or.inl ⟨by rfl, ?_⟩) ?_ ?_
                     rotate_left
                     ·intro w'
                      go_simp
                      with_reducible rfl
                     rotate_left
                     ·simp only [Act.put, lA, lZ, lS, i64_w, i32_w]
                      rfl
                     refine pure_ (i := 8) (N := some 140) (v := ?_) (a' := ?_) #[true, true, true, true, true, true, true, true, true, false, false, false, false, false, false, false, false, false, false, false, false, false, false, false, false, false, false, false, false, false, false] rfl rfl (any_of HT_.out (by kernel_rfl)) (fun _ _ _ h => h) (Or.inl ⟨by rfl, ?_⟩) ?_ ?_
                     rotate_left
                     ·intro w'
                      go_simp
                      with_reducible rfl
                     rotate_left
                     ·simp only [Act.put, lA, lZ, lS, i64_w, i32_w]
                      rfl
                     refine pure_ (i := 9) (N := some 141) (v := undef) (a' := ?_) #[true, true, true, true, true, true, true, true, true, true, false, false, false, false, false, false, false, false, false, false, false, false, false, false, false, false, false, false, false, false, false] rfl rfl (any_of HT_.out (by kernel_rfl)) (fun _ _ _ h => h) (Or.inr ⟨by rfl, rfl⟩) ?_ ?_
                     rotate_left
                     ·simp only [Act.put, lA, lZ, lS, i64_w, i32_w]
                      rfl
                     refine pure_ (i := 10) (N := some 142) (v := undef) (a' := ?_) #[true, true, true, true, true, true, true, true, true, true, true, false, false, false, false, false, false, false, false, false, false, false, false, false, false, false, false, false, false, false, false] rfl rfl (any_of HT_.out (by kernel_rfl)) (fun _ _ _ h => h) (Or.inr ⟨by rfl, rfl⟩) ?_ ?_
                     rotate_left
                     ·simp only [Act.put, lA, lZ, lS, i64_w, i32_w]
                      rfl
                     refine pure_ (i := 11) (N := some 143) (v := undef) (a' := ?_) #[true, true, true, true, true, true, true, true, true, true, true, true, false, false, false, false, false, false, false, false, false, false, false, false, false, false, false, false, false, false, false] rfl rfl (any_of HT_.out (by kernel_rfl)) (fun _ _ _ h => h) (Or.inr ⟨by rfl, rfl⟩) ?_ ?_
                     rotate_left
                     ·simp only [Act.put, lA, lZ, lS, i64_w, i32_w]
                      rfl
                     refine pure_ (i := 12) (N := some 144) (v := undef) (a' := ?_) #[true, true, true, true, true, true, true, true, true, true, true, true, true, false, false, false, false, false, false, false, false, false, false, false, false, false, false, false, false, false, false] rfl rfl (any_of HT_.out (by kernel_rfl)) (fun _ _ _ h => h) (Or.inr ⟨by rfl, rfl⟩) ?_ ?_
                     rotate_left
                     ·simp only [Act.put, lA, lZ, lS, i64_w, i32_w]
                      rfl
                     refine pure_ (i := 13) (N := some 145) (v := undef) (a' := ?_) #[true, true, true, true, true, true, true, true, true, true, true, true, true, true, false, false, false, false, false, false, false, false, false, false, false, false, false, false, false, false, false] rfl rfl (any_of HT_.out (by kernel_rfl)) (fun _ _ _ h => h) (Or.inr ⟨by rfl, rfl⟩) ?_ ?_
                     rotate_left
                     ·simp only [Act.put, lA, lZ, lS, i64_w, i32_w]
                      rfl
                     refine pure_ (i := 14) (N := some 146) (v := undef) (a' := ?_) #[true, true, true, true, true, true, true, true, true, true, true, true, true, true, true, false, false, false, false, false, false, false, false, false, false, false, false, false, false, false, false] rfl rfl (any_of HT_.out (by kernel_rfl)) (fun _ _ _ h => h) (Or.inr ⟨by rfl, rfl⟩) ?_ ?_
                     rotate_left
                     ·simp only [Act.put, lA, lZ, lS, i64_w, i32_w]
                      rfl
                     refine pure_ (i := 15) (N := some 147) (v := undef) (a' := ?_) #[true, true, true, true, true, true, true, true, true, true, true, true, true, true, true, true, false, false, false, false, false, false, false, false, false, false, false, false, false, false, false] rfl rfl (any_of HT_.out (by kernel_rfl)) (fun _ _ _ h => h) (Or.inr ⟨by rfl, rfl⟩) ?_ ?_
                     rotate_left
                     ·simp only [Act.put, lA, lZ, lS, i64_w, i32_w]
                      rfl
                     refine pure_ (i := 16) (N := some 148) (v := undef) (a' := ?_) #[true, true, true, true, true, true, true, true, true, true, true, true, true, true, true, true, true, false, false, false, false, false, false, false, false, false, false, false, false, false, false] rfl rfl (any_of HT_.out (by kernel_rfl)) (fun _ _ _ h => h) (Or.inr ⟨by rfl, rfl⟩) ?_ ?_
                     rotate_left
                     ·simp only [Act.put, lA, lZ, lS, i64_w, i32_w]
                      rfl
                     refine pure_ (i := 17) (N := some 149) (v := undef) (a' := ?_) #[true, true, true, true, true, true, true, true, true, true, true, true, true, true, true, true, true, true, false, false, false, false, false, false, false, false, false, false, false, false, false] rfl rfl (any_of HT_.out (by kernel_rfl)) (fun _ _ _ h => h) (Or.inr ⟨by rfl, rfl⟩) ?_ ?_
                     rotate_left
                     ·simp only [Act.put, lA, lZ, lS, i64_w, i32_w]
                      rfl
                     refine pure_ (i := 18) (N := some 150) (v := undef) (a' := ?_) #[true, true, true, true, true, true, true, true, true, true, true, true, true, true, true, true, true, true, true, false, false, false, false, false, false, false, false, false, false, false, false] rfl rfl (any_of HT_.out (by kernel_rfl)) (fun _ _ _ h => h) (Or.inr ⟨by rfl, rfl⟩) ?_ ?_
                     rotate_left
                     ·simp only [Act.put, lA, lZ, lS, i64_w, i32_w]
                      rfl
                     refine pure_ (i := 19) (N := some 151) (v := undef) (a' := ?_) #[true, true, true, true, true, true, true, true, true, true, true, true, true, true, true, true, true, true, true, true, false, false, false, false, false, false, false, false, false, false, false] rfl rfl (any_of HT_.out (by kernel_rfl)) (fun _ _ _ h => h) (Or.inr ⟨by rfl, rfl⟩) ?_ ?_
                     rotate_left
                     ·simp only [Act.put, lA, lZ, lS, i64_w, i32_w]
                      rfl
                     refine pure_ (i := 20) (N := some 152) (v := undef) (a' := ?_) #[true, true, true, true, true, true, true, true, true, true, true, true, true, true, true, true, true, true, true, true, true, false, false, false, false, false, false, false, false, false, false] rfl rfl (any_of HT_.out (by kernel_rfl)) (fun _ _ _ h => h) (Or.inr ⟨by rfl, rfl⟩) ?_ ?_
                     rotate_left
                     ·simp only [Act.put, lA, lZ, lS, i64_w, i32_w]
                      rfl
                     refine pure_ (i := 21) (N := some 153) (v := undef) (a' := ?_) #[true, true, true, true, true, true, true, true, true, true, true, true, true, true, true, true, true, true, true, true, true, true, false, false, false, false, false, false, false, false, false] rfl rfl (any_of HT_.out (by kernel_rfl)) (fun _ _ _ h => h) (Or.inr ⟨by rfl, rfl⟩) ?_ ?_
                     rotate_left
                     ·simp only [Act.put, lA, lZ, lS, i64_w, i32_w]
                      rfl
                     refine pure_ (i := 22) (N := some 154) (v := undef) (a' := ?_) #[true, true, true, true, true, true, true, true, true, true, true, true, true, true, true, true, true, true, true, true, true, true, true, false, false, false, false, false, false, false, false] rfl rfl (any_of HT_.out (by kernel_rfl)) (fun _ _ _ h => h) (Or.inr ⟨by rfl, rfl⟩) ?_ ?_
                     rotate_left
                     ·simp only [Act.put, lA, lZ, lS, i64_w, i32_w]
                      rfl
                     refine pure_ (i := 23) (N := some 155) (v := undef) (a' := ?_) #[true, true, true, true, true, true, true, true, true, true, true, true, true, true, true, true, true, true, true, true, true, true, true, true, false, false, false, false, false, false, false] rfl rfl (any_of HT_.out (by kernel_rfl)) (fun _ _ _ h => h) (Or.inr ⟨by rfl, rfl⟩) ?_ ?_
                     rotate_left
                     ·simp only [Act.put, lA, lZ, lS, i64_w, i32_w]
                      rfl
                     refine pure_ (i := 24) (N := some 156) (v := undef) (a' := ?_) #[true, true, true, true, true, true, true, true, true, true, true, true, true, true, true, true, true, true, true, true, true, true, true, true, true, false, false, false, false, false, false] rfl rfl (any_of HT_.out (by kernel_rfl)) (fun _ _ _ h => h) (Or.inr ⟨by rfl, rfl⟩) ?_ ?_
                     rotate_left
                     ·simp only [Act.put, lA, lZ, lS, i64_w, i32_w]
                      rfl
                     refine pure_ (i := 25) (N := some 157) (v := undef) (a' := ?_) #[true, true, true, true, true, true, true, true, true, true, true, true, true, true, true, true, true, true, true, true, true, true, true, true, true, true, false, false, false, false, false] rfl rfl (any_of HT_.out (by kernel_rfl)) (fun _ _ _ h => h) (Or.inr ⟨by rfl, rfl⟩) ?_ ?_
                     rotate_left
                     ·simp only [Act.put, lA, lZ, lS, i64_w, i32_w]
                      rfl
                     refine pure_ (i := 26) (N := some 158) (v := undef) (a' := ?_) #[true, true, true, true, true, true, true, true, true, true, true, true, true, true, true, true, true, true, true, true, true, true, true, true, true, true, true, false, false, false, false] rfl rfl (any_of HT_.out (by kernel_rfl)) (fun _ _ _ h => h) (Or.inr ⟨by rfl, rfl⟩) ?_ ?_
                     rotate_left
                     ·simp only [Act.put, lA, lZ, lS, i64_w, i32_w]
                      rfl
                     refine pure_ (i := 27) (N := some 159) (v := undef) (a' := ?_) #[true, true, true, true, true, true, true, true, true, true, true, true, true, true, true, true, true, true, true, true, true, true, true, true, true, true, true, true, false, false, false] rfl rfl (any_of HT_.out (by kernel_rfl)) (fun _ _ _ h => h) (Or.inr ⟨by rfl, rfl⟩) ?_ ?_
                     rotate_left
                     ·simp only [Act.put, lA, lZ, lS, i64_w, i32_w]
                      rfl
                     refine pure_ (i := 28) (N := some 160) (v := undef) (a' := ?_) #[true, true, true, true, true, true, true, true, true, true, true, true, true, true, true, true, true, true, true, true, true, true, true, true, true, true, true, true, true, false, false] rfl rfl (any_of HT_.out (by kernel_rfl)) (fun _ _ _ h => h) (Or.inr ⟨by rfl, rfl⟩) ?_ ?_
                     rotate_left
                     ·simp only [Act.put, lA, lZ, lS, i64_w, i32_w]
                      rfl
                     refine pure_ (i := 29) (N := some 161) (v := undef) (a' := ?_) #[true, true, true, true, true, true, true, true, true, true, true, true, true, true, true, true, true, true, true, true, true, true, true, true, true, true, true, true, true, true, false] rfl rfl (any_of HT_.out (by kernel_rfl)) (fun _ _ _ h => h) (Or.inr ⟨by rfl, rfl⟩) ?_ ?_
                     rotate_left
                     ·simp only [Act.put, lA, lZ, lS, i64_w, i32_w]
                      rfl
                     refine pure_ (i := 30) (N := some 162) (v := ?_) (a' := ?_) #[true, true, true, true, true, true, true, true, true, true, true, true, true, true, true, true, true, true, true, true, true, true, true, true, true, true, true, true, true, true, true] rfl rfl (any_of HT_.out (by kernel_rfl)) (fun _ _ _ h => h) (Or.inl ⟨by rfl, ?_⟩) ?_ ?_
                     rotate_left
                     ·intro w'
                      go_simp
                      with_reducible rfl
                     rotate_left
                     ·simp only [Act.put, lA, lZ, lS, i64_w, i32_w]
                      rfl
                     refine done_ (done_of HT_.out (by kernel_rfl)) ?_
                     try go_wp2
                     go_roundg k4
                     case measure => have := HJ4.out; have := HK2.out; have := HK3.out; have := HK4.out; omega
                     case rel => exact ⟨(x15_4), (wrap64 (x129_4 + 1)), (by first|rfl|(simp; done)|(simp [*]; done)), H', ⟨by have := HJ4.out; have := HK2.out; have := HK3.out; have := HK4.out; omega⟩, ⟨by (with_reducible repeat (first|apply Kd.N_alloc|apply Kd.N_drewN|apply Kd.N_drew)); exact HO_9.out⟩, ⟨by (with_reducible repeat first|apply rA|apply rN|apply rD); exact HO_15.out⟩, ⟨by repeat (first|(with_reducible first|exact HB.out|apply bA|apply bN|apply bD)|exact HB.out)⟩⟩
                   ·rw [if_neg c72] at H
                    exact absurd H (by simp)
                  ·rw [if_neg c71] at H
                   exact absurd H (by simp)
                 ·rw [if_neg c70] at H
                  exact absurd H (by simp)
                ·rw [if_neg c69] at H
                 have c69b0 : decide (x129_4 < (l0.length : Int)) = false := decide_eq_false c69
                 clear c69
                 have H' := Aside0.mk H
                 clear H
                 go_wp2
                 go_roundg k4
                 case measure => have := HJ4.out; have := HK2.out; have := HK3.out; have := HK4.out; omega
                 case rel => exact ⟨(x15_4), (wrap64 (x16_3 - 1)), (by first|rfl|(simp; done)|(simp [*]; done)), H', ⟨by have := HJ4.out; have := HK2.out; have := HK3.out; have := HK4.out; omega⟩, ⟨by (with_reducible repeat (first|apply Kd.N_alloc|apply Kd.N_drewN|apply Kd.N_drew)); exact HO_9.out⟩, ⟨by (with_reducible repeat first|apply rA|apply rN|apply rD); exact HO_15.out⟩, ⟨by repeat (first|(with_reducible first|exact HB.out|apply bA|apply bN|apply bD)|exact HB.out)⟩⟩
             ·rw [if_neg c67] at H
              exact absurd H (by simp)
            ·rw [if_neg c66] at H
             exact absurd H (by simp)
           ·rw [if_neg c64] at H
            have c64b0 : decide (0 < x16_3) = false := decide_eq_false c64
            clear c64
            obtain rfl := Option.some.inj H
            go_wp2
            go_ret
            exact ⟨_, by first|rfl|(simp [errW_none, errW_some] <;> rfl)|(simp [*, errW_none, errW_some] <;> rfl), by (with_reducible repeat first|apply rA|apply rN|apply rD); exact HO_15.out, by repeat (first|(with_reducible first|exact HB.out|apply bA|apply bN|apply bD)|exact HB.out)⟩
     ·rw [if_neg c13] at H
      exact absurd H (by simp)
    ·rw [if_neg c12] at H
     exact absurd H (by simp)

end Go.Proofs.Ytkofidpgbmajdaa.PFnBestTour
