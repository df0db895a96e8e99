-- Written by a program of this session (the kit's print, changed).
import Derived.Test.YtbbafjmfdbjkaaaSq
import Derived.Test.YtbbafjmfdbjkaaaPFnPeakRowx0
import Derived.Test.YtbbafjmfdbjkaaaPFnPeakRowx1
import Derived.Test.YtbbafjmfdbjkaaaPFnPeakRowx2
import Derived.Test.YtbbafjmfdbjkaaaPFnPeakRowx7
import Derived.Test.YtbbafjmfdbjkaaaPFnPeakRowx12
namespace Go.Proofs.Ytbbafjmfdbjkaaa.PFnPeakRow
open Go.RowKit Go.Proofs.YtbbafjmfdbjkaaaW.PrintWords Go.Proofs.YtbbafjmfdbjkaaaW.PrintLast Go.Proofs.YtbbafjmfdbjkaaaW.PrintMore
attribute [local go_sem] max2_int min2_int max_two min_two max_three min_three max_four min_four   -- for this text's walks alone
set_option linter.unusedVariables false
set_option linter.unusedSimpArgs false

/-! ### spec_PeakRow: function 33 -/
mutual
def spec_PeakRow.l0 : Nat → List Int → List Int → List Int → Bool → List Int → Int → Option (List Int)
 | 0, _, _, _, _, _, _ => none
 | k + 1, x0, x5, x6, x7, x8, x9 => if x9 < (x0.length : Int) then (spec_PeakRow.j1 k x0 x5 x6 x7 x8 x9 x7) else (spec_PeakRow.j1 k x0 x5 x6 x7 x8 x9 false)
def spec_PeakRow.j1 : Nat → List Int → List Int → List Int → Bool → List Int → Int → Bool → Option (List Int)
 | 0, _, _, _, _, _, _, _ => none
 | k + 1, x0, x5, x6, x7, x8, x9, x27 => if x27 = true then (if 0 ≤ x9 then (if x9 < (x6.length : Int) then (spec_PeakRow.l1 k x0 x5 x6 x7 x8 x9 (rd x6 x9) 0) else (none)) else (none)) else (some x5)
def spec_PeakRow.l1 : Nat → List Int → List Int → List Int → Bool → List Int → Int → Int → Int → Option (List Int)
 | 0, _, _, _, _, _, _, _, _ => none
 | k + 1, x0, x5, x6, x7, x8, x9, x10, x11 => if x11 < (x0.length : Int) then (if 0 ≤ x11 then (if x11 < (x8.length : Int) then (if 0 ≤ x9 then (if x9 < (x8.length : Int) then (if (rd x8 x11) = (rd x8 x9) then (if x11 < (x6.length : Int) then (spec_PeakRow.l1 k x0 x5 x6 x7 x8 x9 (mx x10 (rd x6 x11)) (wrap64 (x11 + 1))) else (none)) else (spec_PeakRow.l1 k x0 x5 x6 x7 x8 x9 x10 (wrap64 (x11 + 1)))) else (none)) else (none)) else (none)) else (none)) else (if x5.length < 17592186044416 then (spec_PeakRow.l0 k x0 (x5 ++ [x10]) x6 x7 x8 (wrap64 (x9 + 1))) else (none))
end
def spec_PeakRow.f (k : Nat) (l0 : List Int) (l1 : List Int) : Option (List Int) := (spec_HeightRow.f k l0 l1).bind fun bt375 => ((spec_PartsOf.f k l0).bind fun t379 => (spec_PeakRow.l0 k l0 (([] : List Int)) bt375.1 bt375.2 t379 0))
theorem spec_PeakRow.mono_l : ∀ k, (∀ y0 y1 y2 y3 y4 y5, LeO (spec_PeakRow.l0 k y0 y1 y2 y3 y4 y5) (spec_PeakRow.l0 (k + 1) y0 y1 y2 y3 y4 y5)) ∧ (∀ y0 y1 y2 y3 y4 y5 y6, LeO (spec_PeakRow.j1 k y0 y1 y2 y3 y4 y5 y6) (spec_PeakRow.j1 (k + 1) y0 y1 y2 y3 y4 y5 y6)) ∧ (∀ y0 y1 y2 y3 y4 y5 y6 y7, LeO (spec_PeakRow.l1 k y0 y1 y2 y3 y4 y5 y6 y7) (spec_PeakRow.l1 (k + 1) y0 y1 y2 y3 y4 y5 y6 y7))
 | 0 => ⟨fun _ _ _ _ _ _ r h => by simp [spec_PeakRow.l0] at h, fun _ _ _ _ _ _ _ r h => by simp [spec_PeakRow.j1] at h, fun _ _ _ _ _ _ _ _ r h => by simp [spec_PeakRow.l1] at h⟩
 | k + 1 => by
  obtain ⟨ih0, ih1, ih2⟩ := spec_PeakRow.mono_l k
  refine ⟨?_, ?_, ?_⟩
  ·intro y0 y1 y2 y3 y4 y5
   unfold spec_PeakRow.l0
   repeat' first|(with_reducible first|exact ih0 _ _ _ _ _ _|exact ih1 _ _ _ _ _ _ _|exact ih2 _ _ _ _ _ _ _ _|exact spec_HeightRow.mono _ _ _|exact spec_PartsOf.mono _ _|exact LeO.refl _|exact LeO.none _|refine LeO.ite ?_ ?_|refine LeO.bind ?_ (fun _ => ?_))|exact ih0 _ _ _ _ _ _|exact ih1 _ _ _ _ _ _ _|exact ih2 _ _ _ _ _ _ _ _|exact spec_HeightRow.mono _ _ _|exact spec_PartsOf.mono _ _|exact LeO.none _|refine LeO.ite ?_ ?_|refine LeO.bind ?_ (fun _ => ?_)
  ·intro y0 y1 y2 y3 y4 y5 y6
   unfold spec_PeakRow.j1
   repeat' first|(with_reducible first|exact ih0 _ _ _ _ _ _|exact ih1 _ _ _ _ _ _ _|exact ih2 _ _ _ _ _ _ _ _|exact spec_HeightRow.mono _ _ _|exact spec_PartsOf.mono _ _|exact LeO.refl _|exact LeO.none _|refine LeO.ite ?_ ?_|refine LeO.bind ?_ (fun _ => ?_))|exact ih0 _ _ _ _ _ _|exact ih1 _ _ _ _ _ _ _|exact ih2 _ _ _ _ _ _ _ _|exact spec_HeightRow.mono _ _ _|exact spec_PartsOf.mono _ _|exact LeO.none _|refine LeO.ite ?_ ?_|refine LeO.bind ?_ (fun _ => ?_)
  ·intro y0 y1 y2 y3 y4 y5 y6 y7
   unfold spec_PeakRow.l1
   repeat' first|(with_reducible first|exact ih0 _ _ _ _ _ _|exact ih1 _ _ _ _ _ _ _|exact ih2 _ _ _ _ _ _ _ _|exact spec_HeightRow.mono _ _ _|exact spec_PartsOf.mono _ _|exact LeO.refl _|exact LeO.none _|refine LeO.ite ?_ ?_|refine LeO.bind ?_ (fun _ => ?_))|exact ih0 _ _ _ _ _ _|exact ih1 _ _ _ _ _ _ _|exact ih2 _ _ _ _ _ _ _ _|exact spec_HeightRow.mono _ _ _|exact spec_PartsOf.mono _ _|exact LeO.none _|refine LeO.ite ?_ ?_|refine LeO.bind ?_ (fun _ => ?_)
theorem spec_PeakRow.mono : ∀ a0 a1 k, LeO (spec_PeakRow.f k a0 a1) (spec_PeakRow.f (k + 1) a0 a1) := by
 intro a0 a1 k
 obtain ⟨ih0, ih1, ih2⟩ := spec_PeakRow.mono_l k
 unfold spec_PeakRow.f
 repeat' first|(with_reducible first|exact ih0 _ _ _ _ _ _|exact ih1 _ _ _ _ _ _ _|exact ih2 _ _ _ _ _ _ _ _|exact spec_HeightRow.mono _ _ _|exact spec_PartsOf.mono _ _|exact LeO.refl _|exact LeO.none _|refine LeO.ite ?_ ?_|refine LeO.bind ?_ (fun _ => ?_))|exact ih0 _ _ _ _ _ _|exact ih1 _ _ _ _ _ _ _|exact ih2 _ _ _ _ _ _ _ _|exact spec_HeightRow.mono _ _ _|exact spec_PartsOf.mono _ _|exact LeO.none _|refine LeO.ite ?_ ?_|refine LeO.bind ?_ (fun _ => ?_)
set_option maxHeartbeats 8000000 in
set_option maxRecDepth 100000 in
theorem spec_PeakRow.calls (k : Nat) (A0 : Option Addr) (c0 : Nat) (l0 : List Int) (A1 : Option Addr) (c1 : Nat) (l1 : List Int) (r : List Int) (w : World) (hr0 : Kd.C (Kd.int .i64) w A0 l0.length l0) (hc0 : l0.length ≤ c0) (hr1 : Kd.C (Kd.int .i64) w A1 l1.length l1) (hc1 : l1.length ≤ c1) (h : spec_PeakRow.f k l0 l1 = some r) :
  Calls Try.prog 33 #[.slice A0 l0.length c0, .slice A1 l1.length c1] w fun e w' => ∃ v0_ : Value, e = .returned (v0_) ∧ Kd.R (Kd.int .i64) 3 w' w.heap.size (fun _ => True) v0_ r ∧ Below w.heap.size w w' := by
 have HR0 := Aside0.mk hr0
 have HC0 := Aside0.mk hc0
 clear hr0 hc0
 have HR1 := Aside0.mk hr1
 have HC1 := Aside0.mk hc1
 clear hr1 hc1
 have HB := Aside0.mk (Below.refl w.heap.size w)
 have H : ((spec_HeightRow.f k l0 l1).bind fun bt375 => ((spec_PartsOf.f k l0).bind fun t379 => (spec_PeakRow.l0 k l0 (([] : List Int)) bt375.1 bt375.2 t379 0))) = some r := h
 clear h
 obtain ⟨y372, hy372⟩ : ∃ y_ : List Int, y_ = (([] : List Int)) := ⟨_, rfl⟩
 replace H : ((spec_HeightRow.f k l0 l1).bind fun bt375 => ((spec_PartsOf.f k l0).bind fun t379 => (spec_PeakRow.l0 k l0 y372 bt375.1 bt375.2 t379 0))) = some r := by first|(rw [hy372]; with_reducible exact H)|(have H2_ := (Option.bind_some _ _).symm.trans H; rw [hy372]; with_reducible exact H2_)|(have H2_ := (Option.bind_some _ _).symm.trans H; with_reducible exact H2_)|with_reducible exact H|(rw [hy372]; exact H)|exact H
 have Ny372 := Aside0.mk hy372
 clear hy372
 replace H := Option.bind_eq_some_iff.mp H
 obtain ⟨⟨t375, t376⟩, A30, H⟩ := H
 replace H : ((spec_PartsOf.f k l0).bind fun t379 => (spec_PeakRow.l0 k l0 y372 t375 t376 t379 0)) = some r := H
 have A3 := Aside0.mk A30
 clear A30
 replace H := Option.bind_eq_some_iff.mp H
 obtain ⟨t379, A40, H⟩ := H
 replace H : (spec_PeakRow.l0 k l0 y372 t375 t376 t379 0) = some r := H
 have A4 := Aside0.mk A40
 clear A40
 have H' := Aside0.mk H
 clear H
 go_enter Try.func33, Try.ntmps33
 go_wp2_with (first|((with_reducible refine gate_dst (N := 12) rfl ?_); refine Kd.R_lit (Kd.int .i64) _ 3 ?hg (N := 12) ?hd (xs := ([] : List Int)) (inner := []) (ok := fun _ => True) (okp := fun _ => True) ?hr ?hp (fun _ hk => hk) trivial (Below.refl _ _) (Nat.le_refl _) (by simp) ?_; (case hd => rfl); (case hg => rfl); (case hr => first|(go_simp; done)|(go_simp; rfl)); (case hp => exact (Reps.none _ _)); intro v373 w5 ho6 hb hg_ hnew_; clear hg_ hnew_; (first|rw [← Ny372.out] at ho6|(simp only [Int.reduceToNat] at ho6; rw [← Ny372.out] at ho6)); have n0_ := Aside0.mk (Kd.R_lower ho6 (below_size (by repeat (first|(with_reducible first|exact HB.out|apply bA|apply bN|apply bD)|exact HB.out)))); have n1_ := Aside0.mk (below_step (by repeat (first|(with_reducible first|exact HB.out|apply bA|apply bN|apply bD)|exact HB.out)) hb); clear HB; have HO374 := n0_; have HB := n1_; clear n0_ n1_; clear hb ho6)|(go_at_call 69; (with_reducible refine (spec_HeightRow.calls k _ _ l0 _ _ l1 t375 t376 _ ?side1 ?side2 ?side3 ?side4 A3.out).mono ?_); (case side1 => repeat (first|exact (Kd.C_below HR0.out HB.out)|(with_reducible first|refine cA ?_ _|refine cN ?_ _|refine cD ?_))); (case side2 => exact HC0.out); (case side3 => repeat (first|exact (Kd.C_below HR1.out HB.out)|(with_reducible first|refine cA ?_ _|refine cN ?_ _|refine cD ?_))); (case side4 => exact HC1.out); rintro e w7 ⟨v377, rfl, ho0, hb⟩; have n0_ := Aside0.mk (Kd.R_elder' (by (with_reducible repeat first|apply rA|apply rN|apply rD); exact HO374.out) (Kd.R_base ho0) hb); have n1_ := Aside0.mk (Kd.R_lower (Kd.R_new' ho0 (Kd.R_lt (by (with_reducible repeat first|apply rA|apply rN|apply rD); exact HO374.out))) (below_size (by repeat (first|(with_reducible first|exact HB.out|apply bA|apply bN|apply bD)|exact HB.out)))); have n2_ := Aside0.mk (below_step (by repeat (first|(with_reducible first|exact HB.out|apply bA|apply bN|apply bD)|exact HB.out)) hb); clear HO374; clear HB; have HO374 := n0_; have HO378 := n1_; have HB := n2_; clear n0_ n1_ n2_; (try clear hb); (try clear hb2); (try clear hk); (try clear hi); (try clear ho0))|(go_at_call 70; (with_reducible refine (spec_PartsOf.calls k _ _ l0 t379 _ ?side1 ?side2 A4.out).mono ?_); (case side1 => repeat (first|exact (Kd.C_below HR0.out HB.out)|(with_reducible first|refine cA ?_ _|refine cN ?_ _|refine cD ?_))); (case side2 => exact HC0.out); rintro e w8 ⟨v380, rfl, ho0, hb⟩; have n0_ := Aside0.mk (Kd.R_elder' (by (with_reducible repeat first|apply rA|apply rN|apply rD); exact HO374.out) (Kd.R_base ho0) hb); have n1_ := Aside0.mk (Kd.R_elder' (by (with_reducible repeat first|apply rA|apply rN|apply rD); exact HO378.out) (Kd.R_base ho0) hb); have n2_ := Aside0.mk (Kd.R_lower (Kd.R_new' (Kd.R_new' ho0 (Kd.R_lt (by (with_reducible repeat first|apply rA|apply rN|apply rD); exact HO374.out))) (Kd.R_lt (by (with_reducible repeat first|apply rA|apply rN|apply rD); exact HO378.out))) (below_size (by repeat (first|(with_reducible first|exact HB.out|apply bA|apply bN|apply bD)|exact HB.out)))); have n3_ := Aside0.mk (below_step (by repeat (first|(with_reducible first|exact HB.out|apply bA|apply bN|apply bD)|exact HB.out)) hb); clear HO374; clear HO378; clear HB; have HO374 := n0_; have HO378 := n1_; have HO381 := n2_; have HB := n3_; clear n0_ n1_ n2_ n3_; (try clear hb); (try clear hb2); (try clear hk); (try clear hi); (try clear ho0)))
 repeat (go_quiet (first|((with_reducible refine gate_dst (N := 12) rfl ?_); refine Kd.R_lit (Kd.int .i64) _ 3 ?hg (N := 12) ?hd (xs := ([] : List Int)) (inner := []) (ok := fun _ => True) (okp := fun _ => True) ?hr ?hp (fun _ hk => hk) trivial (Below.refl _ _) (Nat.le_refl _) (by simp) ?_; (case hd => rfl); (case hg => rfl); (case hr => first|(go_simp; done)|(go_simp; rfl)); (case hp => exact (Reps.none _ _)); intro v373 w5 ho6 hb hg_ hnew_; clear hg_ hnew_; (first|rw [← Ny372.out] at ho6|(simp only [Int.reduceToNat] at ho6; rw [← Ny372.out] at ho6)); have n0_ := Aside0.mk (Kd.R_lower ho6 (below_size (by repeat (first|(with_reducible first|exact HB.out|apply bA|apply bN|apply bD)|exact HB.out)))); have n1_ := Aside0.mk (below_step (by repeat (first|(with_reducible first|exact HB.out|apply bA|apply bN|apply bD)|exact HB.out)) hb); clear HB; have HO374 := n0_; have HB := n1_; clear n0_ n1_; clear hb ho6)|(go_at_call 69; (with_reducible refine (spec_HeightRow.calls k _ _ l0 _ _ l1 t375 t376 _ ?side1 ?side2 ?side3 ?side4 A3.out).mono ?_); (case side1 => repeat (first|exact (Kd.C_below HR0.out HB.out)|(with_reducible first|refine cA ?_ _|refine cN ?_ _|refine cD ?_))); (case side2 => exact HC0.out); (case side3 => repeat (first|exact (Kd.C_below HR1.out HB.out)|(with_reducible first|refine cA ?_ _|refine cN ?_ _|refine cD ?_))); (case side4 => exact HC1.out); rintro e w7 ⟨v377, rfl, ho0, hb⟩; have n0_ := Aside0.mk (Kd.R_elder' (by (with_reducible repeat first|apply rA|apply rN|apply rD); exact HO374.out) (Kd.R_base ho0) hb); have n1_ := Aside0.mk (Kd.R_lower (Kd.R_new' ho0 (Kd.R_lt (by (with_reducible repeat first|apply rA|apply rN|apply rD); exact HO374.out))) (below_size (by repeat (first|(with_reducible first|exact HB.out|apply bA|apply bN|apply bD)|exact HB.out)))); have n2_ := Aside0.mk (below_step (by repeat (first|(with_reducible first|exact HB.out|apply bA|apply bN|apply bD)|exact HB.out)) hb); clear HO374; clear HB; have HO374 := n0_; have HO378 := n1_; have HB := n2_; clear n0_ n1_ n2_; (try clear hb); (try clear hb2); (try clear hk); (try clear hi); (try clear ho0))|(go_at_call 70; (with_reducible refine (spec_PartsOf.calls k _ _ l0 t379 _ ?side1 ?side2 A4.out).mono ?_); (case side1 => repeat (first|exact (Kd.C_below HR0.out HB.out)|(with_reducible first|refine cA ?_ _|refine cN ?_ _|refine cD ?_))); (case side2 => exact HC0.out); rintro e w8 ⟨v380, rfl, ho0, hb⟩; have n0_ := Aside0.mk (Kd.R_elder' (by (with_reducible repeat first|apply rA|apply rN|apply rD); exact HO374.out) (Kd.R_base ho0) hb); have n1_ := Aside0.mk (Kd.R_elder' (by (with_reducible repeat first|apply rA|apply rN|apply rD); exact HO378.out) (Kd.R_base ho0) hb); have n2_ := Aside0.mk (Kd.R_lower (Kd.R_new' (Kd.R_new' ho0 (Kd.R_lt (by (with_reducible repeat first|apply rA|apply rN|apply rD); exact HO374.out))) (Kd.R_lt (by (with_reducible repeat first|apply rA|apply rN|apply rD); exact HO378.out))) (below_size (by repeat (first|(with_reducible first|exact HB.out|apply bA|apply bN|apply bD)|exact HB.out)))); have n3_ := Aside0.mk (below_step (by repeat (first|(with_reducible first|exact HB.out|apply bA|apply bN|apply bD)|exact HB.out)) hb); clear HO374; clear HO378; clear HB; have HO374 := n0_; have HO378 := n1_; have HO381 := n2_; have HB := n3_; clear n0_ n1_ n2_ n3_; (try clear hb); (try clear hb2); (try clear hk); (try clear hi); (try clear ho0))); try go_wp2_with (first|((with_reducible refine gate_dst (N := 12) rfl ?_); refine Kd.R_lit (Kd.int .i64) _ 3 ?hg (N := 12) ?hd (xs := ([] : List Int)) (inner := []) (ok := fun _ => True) (okp := fun _ => True) ?hr ?hp (fun _ hk => hk) trivial (Below.refl _ _) (Nat.le_refl _) (by simp) ?_; (case hd => rfl); (case hg => rfl); (case hr => first|(go_simp; done)|(go_simp; rfl)); (case hp => exact (Reps.none _ _)); intro v373 w5 ho6 hb hg_ hnew_; clear hg_ hnew_; (first|rw [← Ny372.out] at ho6|(simp only [Int.reduceToNat] at ho6; rw [← Ny372.out] at ho6)); have n0_ := Aside0.mk (Kd.R_lower ho6 (below_size (by repeat (first|(with_reducible first|exact HB.out|apply bA|apply bN|apply bD)|exact HB.out)))); have n1_ := Aside0.mk (below_step (by repeat (first|(with_reducible first|exact HB.out|apply bA|apply bN|apply bD)|exact HB.out)) hb); clear HB; have HO374 := n0_; have HB := n1_; clear n0_ n1_; clear hb ho6)|(go_at_call 69; (with_reducible refine (spec_HeightRow.calls k _ _ l0 _ _ l1 t375 t376 _ ?side1 ?side2 ?side3 ?side4 A3.out).mono ?_); (case side1 => repeat (first|exact (Kd.C_below HR0.out HB.out)|(with_reducible first|refine cA ?_ _|refine cN ?_ _|refine cD ?_))); (case side2 => exact HC0.out); (case side3 => repeat (first|exact (Kd.C_below HR1.out HB.out)|(with_reducible first|refine cA ?_ _|refine cN ?_ _|refine cD ?_))); (case side4 => exact HC1.out); rintro e w7 ⟨v377, rfl, ho0, hb⟩; have n0_ := Aside0.mk (Kd.R_elder' (by (with_reducible repeat first|apply rA|apply rN|apply rD); exact HO374.out) (Kd.R_base ho0) hb); have n1_ := Aside0.mk (Kd.R_lower (Kd.R_new' ho0 (Kd.R_lt (by (with_reducible repeat first|apply rA|apply rN|apply rD); exact HO374.out))) (below_size (by repeat (first|(with_reducible first|exact HB.out|apply bA|apply bN|apply bD)|exact HB.out)))); have n2_ := Aside0.mk (below_step (by repeat (first|(with_reducible first|exact HB.out|apply bA|apply bN|apply bD)|exact HB.out)) hb); clear HO374; clear HB; have HO374 := n0_; have HO378 := n1_; have HB := n2_; clear n0_ n1_ n2_; (try clear hb); (try clear hb2); (try clear hk); (try clear hi); (try clear ho0))|(go_at_call 70; (with_reducible refine (spec_PartsOf.calls k _ _ l0 t379 _ ?side1 ?side2 A4.out).mono ?_); (case side1 => repeat (first|exact (Kd.C_below HR0.out HB.out)|(with_reducible first|refine cA ?_ _|refine cN ?_ _|refine cD ?_))); (case side2 => exact HC0.out); rintro e w8 ⟨v380, rfl, ho0, hb⟩; have n0_ := Aside0.mk (Kd.R_elder' (by (with_reducible repeat first|apply rA|apply rN|apply rD); exact HO374.out) (Kd.R_base ho0) hb); have n1_ := Aside0.mk (Kd.R_elder' (by (with_reducible repeat first|apply rA|apply rN|apply rD); exact HO378.out) (Kd.R_base ho0) hb); have n2_ := Aside0.mk (Kd.R_lower (Kd.R_new' (Kd.R_new' ho0 (Kd.R_lt (by (with_reducible repeat first|apply rA|apply rN|apply rD); exact HO374.out))) (Kd.R_lt (by (with_reducible repeat first|apply rA|apply rN|apply rD); exact HO378.out))) (below_size (by repeat (first|(with_reducible first|exact HB.out|apply bA|apply bN|apply bD)|exact HB.out)))); have n3_ := Aside0.mk (below_step (by repeat (first|(with_reducible first|exact HB.out|apply bA|apply bN|apply bD)|exact HB.out)) hb); clear HO374; clear HO378; clear HB; have HO374 := n0_; have HO378 := n1_; have HO381 := n2_; have HB := n3_; clear n0_ n1_ n2_ n3_; (try clear hb); (try clear hb2); (try clear hk); (try clear hi); (try clear ho0))))
 go_loopg [5, 9] k (fun kq v5 v9 w' => ∃ (x5_1 : List Int) (x9_1 : Int), v9 = .int .i64 x9_1 ∧ Aside0 (spec_PeakRow.l0 kq l0 x5_1 t375 t376 t379 x9_1 = some r) ∧ Aside0 (kq ≤ k) ∧ Aside0 (Kd.R (Kd.int .i64) 3 w' w.heap.size (fun k_ => some k_ ≠ (v377 : Value).ownBlock ∧ some k_ ≠ (v380 : Value).ownBlock) v5 x5_1) ∧ Aside0 (Kd.R (Kd.int .i64) 3 w' w.heap.size (fun k_ => some k_ ≠ (v5 : Value).ownBlock ∧ some k_ ≠ (v380 : Value).ownBlock) v377 t375) ∧ Aside0 (Kd.R (Kd.int .i64) 3 w' w.heap.size (fun k_ => some k_ ≠ (v5 : Value).ownBlock ∧ some k_ ≠ (v377 : Value).ownBlock) v380 t379) ∧ Aside0 (Below w.heap.size w w'))
 case atStart => exact ⟨(y372), (0), (by first|rfl|(simp; done)|(simp [*]; done)), H', ⟨Nat.le_refl _⟩, ⟨by (with_reducible repeat first|apply rA|apply rN|apply rD); exact Kd.R_mono HO374.out (fun _ hk => ⟨hk.1.2, hk.2⟩)⟩, ⟨by (with_reducible repeat first|apply rA|apply rN|apply rD); exact Kd.R_mono HO378.out (fun _ hk => ⟨hk.1.2, hk.2⟩)⟩, ⟨by (with_reducible repeat first|apply rA|apply rN|apply rD); exact Kd.R_mono HO381.out (fun _ hk => ⟨hk.1.2, hk.2⟩)⟩, ⟨by repeat (first|(with_reducible first|exact HB.out|apply bA|apply bN|apply bD)|exact HB.out)⟩⟩
 case round =>
  clear H'
  try clear c1
  try clear p2
  try clear c3
  obtain ⟨x5_1, x9_1, rfl, HA, HK1, HO_5, HO_6, HO_8, HB⟩ := hrel
  cases gk with
  | zero => exact absurd HA.out (by simp [spec_PeakRow.l0])
  | succ k1 =>
   have H := HA.out
   clear HA
   simp only [spec_PeakRow.l0] at H
   have HC9 := Aside0.mk H
   clear H
   go_upto_region 5 with (fail)
   repeat (go_quiet (fail); go_upto_region 5 with (fail))
   go_cut [27] (fun v27 wc => ∃ (kq : Nat) (x27_8 : Bool), v27 = .bool x27_8 ∧ Aside0 (spec_PeakRow.j1 kq l0 x5_1 t375 t376 t379 x9_1 x27_8 = some r) ∧ Aside0 (kq ≤ k1) ∧ Aside0 (Kd.R (Kd.int .i64) 3 wc w.heap.size (fun k_ => some k_ ≠ (v377 : Value).ownBlock ∧ some k_ ≠ (v380 : Value).ownBlock) u5 x5_1) ∧ Aside0 (Kd.R (Kd.int .i64) 3 wc w.heap.size (fun k_ => some k_ ≠ (u5 : Value).ownBlock ∧ some k_ ≠ (v380 : Value).ownBlock) v377 t375) ∧ Aside0 (Kd.R (Kd.int .i64) 3 wc w.heap.size (fun k_ => some k_ ≠ (u5 : Value).ownBlock ∧ some k_ ≠ (v377 : Value).ownBlock) v380 t379) ∧ Aside0 (Below w.heap.size w wc))
   case first =>
    have H := HC9.out
    clear HC9
    by_cases c10 : x9_1 < (l0.length : Int)
    ·rw [if_pos c10] at H
     have c10b0 : decide (x9_1 < (l0.length : Int)) = true := decide_eq_true c10
     clear c10
     (first|rw [c10b0]|(simp only [i64_w, i32_w]; rw [c10b0])|skip)
     have H' := Aside0.mk H
     clear H
     go_wp2
     repeat (go_quiet (fail); try go_wp2)
     go_meet
     case rel => exact ⟨_, (t376), (by first|rfl|(simp; done)|(simp [*]; done)), H', ⟨by have := HK1.out; first|omega|exact Nat.le_refl _⟩, ⟨by (with_reducible repeat first|apply rA|apply rN|apply rD); exact HO_5.out⟩, ⟨by (with_reducible repeat first|apply rA|apply rN|apply rD); exact HO_6.out⟩, ⟨by (with_reducible repeat first|apply rA|apply rN|apply rD); exact HO_8.out⟩, ⟨by repeat (first|(with_reducible first|exact HB.out|apply bA|apply bN|apply bD)|exact HB.out)⟩⟩
    ·rw [if_neg c10] at H
     have c10b0 : decide (x9_1 < (l0.length : Int)) = false := decide_eq_false c10
     clear c10
     (first|rw [c10b0]|(simp only [i64_w, i32_w]; rw [c10b0])|skip)
     have H' := Aside0.mk H
     clear H
     go_wp2
     repeat (go_quiet (fail); try go_wp2)
     go_meet
     case rel => exact ⟨_, (false), (by first|rfl|(simp; done)|(simp [*]; done)), H', ⟨by have := HK1.out; first|omega|exact Nat.le_refl _⟩, ⟨by (with_reducible repeat first|apply rA|apply rN|apply rD); exact HO_5.out⟩, ⟨by (with_reducible repeat first|apply rA|apply rN|apply rD); exact HO_6.out⟩, ⟨by (with_reducible repeat first|apply rA|apply rN|apply rD); exact HO_8.out⟩, ⟨by repeat (first|(with_reducible first|exact HB.out|apply bA|apply bN|apply bD)|exact HB.out)⟩⟩
   case rest =>
    clear HC9
    try clear c1
    try clear p2
    try clear c3
    try clear c10
    try clear c10b0
    try clear p2
    obtain ⟨kq, x27_8, rfl, HA, HJ8, HO_5, HO_6, HO_8, HB⟩ := hcut
    cases kq with
    | zero => exact absurd HA.out (by simp [spec_PeakRow.j1])
    | succ kj8 =>
     have H := HA.out
     clear HA
     simp only [spec_PeakRow.j1] at H
     by_cases c11 : x27_8 = true
     ·subst c11
      have H1 : (if 0 ≤ x9_1 then (if x9_1 < (t375.length : Int) then (spec_PeakRow.l1 kj8 l0 x5_1 t375 t376 t379 x9_1 (rd t375 x9_1) 0) else (none)) else (none)) = some r := by rw [if_pos rfl] at H; exact H
      clear H
      have H := H1
      clear H1
      by_cases c12 : 0 ≤ x9_1
      ·rw [if_pos c12] at H
       have c12b0 : decide (0 ≤ x9_1) = true := decide_eq_true c12
       clear c12
       by_cases c13 : x9_1 < (t375.length : Int)
       ·rw [if_pos c13] at H
        have c13b0 : decide (x9_1 < (t375.length : Int)) = true := decide_eq_true c13
        clear c13
        have H' := Aside0.mk H
        clear H
        obtain ⟨Ao14, co14, eo14⟩ := Kd.R_slice HO_6.out
        subst eo14
        have p382 : 0 ≤ (x9_1 : Int) := of_decide_eq_true (by first|(with_reducible assumption)|assumption)
        have q382 : x9_1 < (t375.length : Int) := of_decide_eq_true (by first|(with_reducible assumption)|assumption)
        obtain ⟨ad382, e382, hx382_0⟩ := Kd.at_int (Kd.R_reads' HO_6.out).2.2 x9_1 p382 q382
        cases e382
        replace p382 := eq_true p382
        replace q382 := eq_true q382
        go_wp2
        repeat (go_quiet (fail); try go_wp2)
        go_loopg [10, 11] kj8 (fun kq v10 v11 w' => ∃ (x10_3 : Int) (x11_3 : Int), v10 = .int .i64 x10_3 ∧ v11 = .int .i64 x11_3 ∧ Aside0 (spec_PeakRow.l1 kq l0 x5_1 t375 t376 t379 x9_1 x10_3 x11_3 = some r) ∧ Aside0 (kq ≤ kj8) ∧ Aside0 (Kd.R (Kd.int .i64) 3 w' w.heap.size (fun k_ => some k_ ≠ ((.slice (some ad382) t375.length co14) : Value).ownBlock ∧ some k_ ≠ (v380 : Value).ownBlock) u5 x5_1) ∧ Aside0 (Kd.R (Kd.int .i64) 3 w' w.heap.size (fun k_ => some k_ ≠ (u5 : Value).ownBlock ∧ some k_ ≠ (v380 : Value).ownBlock) (.slice (some ad382) t375.length co14) t375) ∧ Aside0 (Kd.R (Kd.int .i64) 3 w' w.heap.size (fun k_ => some k_ ≠ (u5 : Value).ownBlock ∧ some k_ ≠ ((.slice (some ad382) t375.length co14) : Value).ownBlock) v380 t379) ∧ Aside0 (Below w.heap.size w w'))
        case atStart => exact ⟨(rd t375 x9_1), (0), (by first|rfl|(simp; done)|(simp [*]; done)), (by first|rfl|(simp; done)|(simp [*]; done)), H', ⟨Nat.le_refl _⟩, ⟨by (with_reducible repeat first|apply rA|apply rN|apply rD); exact HO_5.out⟩, ⟨by (with_reducible repeat first|apply rA|apply rN|apply rD); exact HO_6.out⟩, ⟨by (with_reducible repeat first|apply rA|apply rN|apply rD); exact HO_8.out⟩, ⟨by repeat (first|(with_reducible first|exact HB.out|apply bA|apply bN|apply bD)|exact HB.out)⟩⟩
        case round =>
         clear H'
         try clear c1
         try clear p2
         try clear c3
         try clear p3
         try clear q3
         try clear hx3
         try clear c10
         try clear c10b0
         try clear c11
         try clear c12
         try clear c12b0
         try clear c13
         try clear c13b0
         try clear hx382_0
         try clear p2
         try clear p382
         try clear q382
         obtain ⟨x10_3, x11_3, rfl, rfl, HA, HK3, HO_5, HO_6, HO_8, HB⟩ := hrel
         cases gk with
         | zero => exact absurd HA.out (by simp [spec_PeakRow.l1])
         | succ k3 =>
          have H := HA.out
          clear HA
          simp only [spec_PeakRow.l1] at H
          by_cases c15 : x11_3 < (l0.length : Int)
          ·rw [if_pos c15] at H
           have c15b0 : decide (x11_3 < (l0.length : Int)) = true := decide_eq_true c15
           clear c15
           by_cases c16 : 0 ≤ x11_3
           ·rw [if_pos c16] at H
            have c16b0 : decide (0 ≤ x11_3) = true := decide_eq_true c16
            clear c16
            by_cases c17 : x11_3 < (t379.length : Int)
            ·rw [if_pos c17] at H
             have c17b0 : decide (x11_3 < (t379.length : Int)) = true := decide_eq_true c17
             clear c17
             by_cases c18 : 0 ≤ x9_1
             ·rw [if_pos c18] at H
              have c18b0 : decide (0 ≤ x9_1) = true := decide_eq_true c18
              clear c18
              by_cases c19 : x9_1 < (t379.length : Int)
              ·rw [if_pos c19] at H
               have c19b0 : decide (x9_1 < (t379.length : Int)) = true := decide_eq_true c19
               clear c19
               by_cases c20 : (rd t379 x11_3) = (rd t379 x9_1)
               ·rw [if_pos c20] at H
                have c20b0 : ((rd t379 x11_3) == (rd t379 x9_1)) = true := beq_iff_eq.mpr c20
                have c20b1 : ((rd t379 x11_3) != (rd t379 x9_1)) = false := bne_eq_false_iff_eq.mpr c20
                clear c20
                by_cases c21 : x11_3 < (t375.length : Int)
                ·rw [if_pos c21] at H
                 have c21b0 : decide (x11_3 < (t375.length : Int)) = true := decide_eq_true c21
                 clear c21
                 obtain ⟨ji22, hji22⟩ : ∃ j_ : Int, (mx x10_3 (rd t375 x11_3)) = j_ := ⟨_, rfl⟩
                 replace H : (spec_PeakRow.l1 k3 l0 x5_1 t375 t376 t379 x9_1 ji22 (wrap64 (x11_3 + 1))) = some r := by first|(rw [hji22] at H; exact H)|(simp only [hji22] at H ⊢; exact H)
                 have hji22_ : (if x10_3 < (rd t375 x11_3) then (rd t375 x11_3) else x10_3) = ji22 := hji22
                 have H' := Aside0.mk H
                 clear H
                 obtain ⟨Ao23, co23, eo23⟩ := Kd.R_slice HO_8.out
                 subst eo23
                 have p383 : 0 ≤ (x11_3 : Int) := of_decide_eq_true (by first|(with_reducible assumption)|assumption)
                 have q383 : x11_3 < (t379.length : Int) := of_decide_eq_true (by first|(with_reducible assumption)|assumption)
                 obtain ⟨ad383, e383, hx383_0⟩ := Kd.at_int (Kd.R_reads' HO_8.out).2.2 x11_3 p383 q383
                 cases e383
                 replace p383 := eq_true p383
                 replace q383 := eq_true q383
                 have p384 : 0 ≤ (x9_1 : Int) := of_decide_eq_true (by first|(with_reducible assumption)|assumption)
                 have q384 : x9_1 < (t379.length : Int) := of_decide_eq_true (by first|(with_reducible assumption)|assumption)
                 obtain ⟨ad384, e384, hx384_0⟩ := Kd.at_int (Kd.R_reads' HO_8.out).2.2 x9_1 p384 q384
                 obtain rfl : ad383 = ad384 := (by injection e384)
                 replace p384 := eq_true p384
                 replace q384 := eq_true q384
                 have p385 : 0 ≤ (x11_3 : Int) := of_decide_eq_true (by first|(with_reducible assumption)|assumption)
                 have q385 : x11_3 < (t375.length : Int) := of_decide_eq_true (by first|(with_reducible assumption)|assumption)
                 obtain ⟨ad385, e385, hx385_0⟩ := Kd.at_int (Kd.R_reads' HO_6.out).2.2 x11_3 p385 q385
                 obtain rfl : ad382 = ad385 := (by injection e385)
                 replace p385 := eq_true p385
                 replace q385 := eq_true q385
                 go_wp2
                 repeat (go_quiet (fail); try go_wp2)
                 go_roundg k3
                 case measure => have := HK1.out; have := HJ8.out; have := HK3.out; omega
                 case rel => exact ⟨(ji22), (wrap64 (x11_3 + 1)), (by first|rfl|(simp; done)|(simp only [← hji22] <;> (first|rfl|simp))|(simp [*]; done)), (by first|rfl|(simp; done)|(simp [*]; done)), H', ⟨by have := HK1.out; have := HJ8.out; have := HK3.out; omega⟩, ⟨by (with_reducible repeat first|apply rA|apply rN|apply rD); exact HO_5.out⟩, ⟨by (with_reducible repeat first|apply rA|apply rN|apply rD); exact HO_6.out⟩, ⟨by (with_reducible repeat first|apply rA|apply rN|apply rD); exact HO_8.out⟩, ⟨by repeat (first|(with_reducible first|exact HB.out|apply bA|apply bN|apply bD)|exact HB.out)⟩⟩
                ·rw [if_neg c21] at H
                 exact absurd H (by simp)
               ·rw [if_neg c20] at H
                have c20b0 : ((rd t379 x11_3) == (rd t379 x9_1)) = false := beq_eq_false_iff_ne.mpr c20
                have c20b1 : ((rd t379 x11_3) != (rd t379 x9_1)) = true := bne_iff_ne.mpr c20
                have H' := Aside0.mk H
                clear H
                obtain ⟨Ao24, co24, eo24⟩ := Kd.R_slice HO_8.out
                subst eo24
                have p383 : 0 ≤ (x11_3 : Int) := of_decide_eq_true (by first|(with_reducible assumption)|assumption)
                have q383 : x11_3 < (t379.length : Int) := of_decide_eq_true (by first|(with_reducible assumption)|assumption)
                obtain ⟨ad383, e383, hx383_0⟩ := Kd.at_int (Kd.R_reads' HO_8.out).2.2 x11_3 p383 q383
                cases e383
                replace p383 := eq_true p383
                replace q383 := eq_true q383
                have p384 : 0 ≤ (x9_1 : Int) := of_decide_eq_true (by first|(with_reducible assumption)|assumption)
                have q384 : x9_1 < (t379.length : Int) := of_decide_eq_true (by first|(with_reducible assumption)|assumption)
                obtain ⟨ad384, e384, hx384_0⟩ := Kd.at_int (Kd.R_reads' HO_8.out).2.2 x9_1 p384 q384
                obtain rfl : ad383 = ad384 := (by injection e384)
                replace p384 := eq_true p384
                replace q384 := eq_true q384
                go_wp2
                repeat (go_quiet (fail); try go_wp2)
                go_roundg k3
                case measure => have := HK1.out; have := HJ8.out; have := HK3.out; omega
                case rel => exact ⟨(x10_3), (wrap64 (x11_3 + 1)), (by first|rfl|(simp; done)|(simp [*]; done)), (by first|rfl|(simp; done)|(simp [*]; done)), H', ⟨by have := HK1.out; have := HJ8.out; have := HK3.out; omega⟩, ⟨by (with_reducible repeat first|apply rA|apply rN|apply rD); exact HO_5.out⟩, ⟨by (with_reducible repeat first|apply rA|apply rN|apply rD); exact HO_6.out⟩, ⟨by (with_reducible repeat first|apply rA|apply rN|apply rD); exact HO_8.out⟩, ⟨by repeat (first|(with_reducible first|exact HB.out|apply bA|apply bN|apply bD)|exact HB.out)⟩⟩
              ·rw [if_neg c19] at H
               exact absurd H (by simp)
             ·rw [if_neg c18] at H
              exact absurd H (by simp)
            ·rw [if_neg c17] at H
             exact absurd H (by simp)
           ·rw [if_neg c16] at H
            exact absurd H (by simp)
          ·rw [if_neg c15] at H
           have c15b0 : decide (x11_3 < (l0.length : Int)) = false := decide_eq_false c15
           clear c15
           by_cases c25 : x5_1.length < 17592186044416
           ·rw [if_pos c25] at H
            have LMc25 := Aside0.mk c25
            clear c25
            obtain ⟨y386, hy386⟩ : ∃ y_ : List Int, y_ = (x5_1 ++ [x10_3]) := ⟨_, rfl⟩
            replace H : (spec_PeakRow.l0 k3 l0 y386 t375 t376 t379 (wrap64 (x9_1 + 1))) = some r := by first|(rw [hy386]; with_reducible exact H)|(have H2_ := (Option.bind_some _ _).symm.trans H; rw [hy386]; with_reducible exact H2_)|(have H2_ := (Option.bind_some _ _).symm.trans H; with_reducible exact H2_)|with_reducible exact H|(rw [hy386]; exact H)|exact H
            have Ny386 := Aside0.mk hy386
            clear hy386
            have H' := Aside0.mk H
            clear H
            go_wp2_with (first|((with_reducible refine gate_builtin (b := .append) (xs := #[.tmp 55, .tmp 57]) rfl ?_); at_builtin; refine Kd.R_append (Kd.int .i64) (w0 := w) w.heap.size rfl (.tmp 55) (.tmp 57) 30 3 (.int .i64 0) 8 rfl Try.underlying30 info3 rfl (by decide) (by omega) u5 x5_1 x10_3 [.int .i64 x10_3] (fun k_ => some k_ ≠ (.slice (some ad382) t375.length co14 : Value).ownBlock ∧ some k_ ≠ (v380 : Value).ownBlock) (fun _ => False) rfl rfl ?aP (fun _ hk => hk.elim) ?aF ?aO ?aB ?aS ?aL ?_; (case aP => exact rfl); (case aB => exact (by repeat (first|(with_reducible first|exact HB.out|apply bA|apply bN|apply bD)|exact HB.out))); (case aF => exact (fun k_ hk => ⟨Kd.fresh' (Kd.R_lt (by (with_reducible repeat first|apply rA|apply rN|apply rD); exact HO_6.out)) k_ hk, Kd.fresh' (Kd.R_lt (by (with_reducible repeat first|apply rA|apply rN|apply rD); exact HO_8.out)) k_ hk⟩)); (case aO => exact (by (with_reducible repeat first|apply rA|apply rN|apply rD); exact HO_5.out)); (case aS => exact (below_size (by repeat (first|(with_reducible first|exact HB.out|apply bA|apply bN|apply bD)|exact HB.out)))); (case aL => have := LMc25.out; omega); intro v387 w26 ho hb hg hat; rw [← Ny386.out] at ho; have n0_ := Aside0.mk (Kd.R_after (ok := (fun k_ => some k_ ≠ (v380 : Value).ownBlock)) (by (with_reducible repeat first|apply rA|apply rN|apply rD); exact Kd.R_mono HO_6.out (fun _ hk => ⟨hk.2, hk.1⟩)) hg hat); have n1_ := Aside0.mk (Kd.R_after (ok := (fun k_ => some k_ ≠ (.slice (some ad382) t375.length co14 : Value).ownBlock)) (by (with_reducible repeat first|apply rA|apply rN|apply rD); exact Kd.R_mono HO_8.out (fun _ hk => ⟨hk.2, hk.1⟩)) hg hat); have n2_ := Aside0.mk (hb); have n3_ := Aside0.mk (ho); clear HO_6; clear HO_8; clear HB; clear HO_5; have HO_6 := n0_; have HO_8 := n1_; have HB := n2_; have HO388 := n3_; clear n0_ n1_ n2_ n3_; clear ho hb hg hat))
            repeat (go_quiet (first|((with_reducible refine gate_builtin (b := .append) (xs := #[.tmp 55, .tmp 57]) rfl ?_); at_builtin; refine Kd.R_append (Kd.int .i64) (w0 := w) w.heap.size rfl (.tmp 55) (.tmp 57) 30 3 (.int .i64 0) 8 rfl Try.underlying30 info3 rfl (by decide) (by omega) u5 x5_1 x10_3 [.int .i64 x10_3] (fun k_ => some k_ ≠ (.slice (some ad382) t375.length co14 : Value).ownBlock ∧ some k_ ≠ (v380 : Value).ownBlock) (fun _ => False) rfl rfl ?aP (fun _ hk => hk.elim) ?aF ?aO ?aB ?aS ?aL ?_; (case aP => exact rfl); (case aB => exact (by repeat (first|(with_reducible first|exact HB.out|apply bA|apply bN|apply bD)|exact HB.out))); (case aF => exact (fun k_ hk => ⟨Kd.fresh' (Kd.R_lt (by (with_reducible repeat first|apply rA|apply rN|apply rD); exact HO_6.out)) k_ hk, Kd.fresh' (Kd.R_lt (by (with_reducible repeat first|apply rA|apply rN|apply rD); exact HO_8.out)) k_ hk⟩)); (case aO => exact (by (with_reducible repeat first|apply rA|apply rN|apply rD); exact HO_5.out)); (case aS => exact (below_size (by repeat (first|(with_reducible first|exact HB.out|apply bA|apply bN|apply bD)|exact HB.out)))); (case aL => have := LMc25.out; omega); intro v387 w26 ho hb hg hat; rw [← Ny386.out] at ho; have n0_ := Aside0.mk (Kd.R_after (ok := (fun k_ => some k_ ≠ (v380 : Value).ownBlock)) (by (with_reducible repeat first|apply rA|apply rN|apply rD); exact Kd.R_mono HO_6.out (fun _ hk => ⟨hk.2, hk.1⟩)) hg hat); have n1_ := Aside0.mk (Kd.R_after (ok := (fun k_ => some k_ ≠ (.slice (some ad382) t375.length co14 : Value).ownBlock)) (by (with_reducible repeat first|apply rA|apply rN|apply rD); exact Kd.R_mono HO_8.out (fun _ hk => ⟨hk.2, hk.1⟩)) hg hat); have n2_ := Aside0.mk (hb); have n3_ := Aside0.mk (ho); clear HO_6; clear HO_8; clear HB; clear HO_5; have HO_6 := n0_; have HO_8 := n1_; have HB := n2_; have HO388 := n3_; clear n0_ n1_ n2_ n3_; clear ho hb hg hat)); try go_wp2_with (first|((with_reducible refine gate_builtin (b := .append) (xs := #[.tmp 55, .tmp 57]) rfl ?_); at_builtin; refine Kd.R_append (Kd.int .i64) (w0 := w) w.heap.size rfl (.tmp 55) (.tmp 57) 30 3 (.int .i64 0) 8 rfl Try.underlying30 info3 rfl (by decide) (by omega) u5 x5_1 x10_3 [.int .i64 x10_3] (fun k_ => some k_ ≠ (.slice (some ad382) t375.length co14 : Value).ownBlock ∧ some k_ ≠ (v380 : Value).ownBlock) (fun _ => False) rfl rfl ?aP (fun _ hk => hk.elim) ?aF ?aO ?aB ?aS ?aL ?_; (case aP => exact rfl); (case aB => exact (by repeat (first|(with_reducible first|exact HB.out|apply bA|apply bN|apply bD)|exact HB.out))); (case aF => exact (fun k_ hk => ⟨Kd.fresh' (Kd.R_lt (by (with_reducible repeat first|apply rA|apply rN|apply rD); exact HO_6.out)) k_ hk, Kd.fresh' (Kd.R_lt (by (with_reducible repeat first|apply rA|apply rN|apply rD); exact HO_8.out)) k_ hk⟩)); (case aO => exact (by (with_reducible repeat first|apply rA|apply rN|apply rD); exact HO_5.out)); (case aS => exact (below_size (by repeat (first|(with_reducible first|exact HB.out|apply bA|apply bN|apply bD)|exact HB.out)))); (case aL => have := LMc25.out; omega); intro v387 w26 ho hb hg hat; rw [← Ny386.out] at ho; have n0_ := Aside0.mk (Kd.R_after (ok := (fun k_ => some k_ ≠ (v380 : Value).ownBlock)) (by (with_reducible repeat first|apply rA|apply rN|apply rD); exact Kd.R_mono HO_6.out (fun _ hk => ⟨hk.2, hk.1⟩)) hg hat); have n1_ := Aside0.mk (Kd.R_after (ok := (fun k_ => some k_ ≠ (.slice (some ad382) t375.length co14 : Value).ownBlock)) (by (with_reducible repeat first|apply rA|apply rN|apply rD); exact Kd.R_mono HO_8.out (fun _ hk => ⟨hk.2, hk.1⟩)) hg hat); have n2_ := Aside0.mk (hb); have n3_ := Aside0.mk (ho); clear HO_6; clear HO_8; clear HB; clear HO_5; have HO_6 := n0_; have HO_8 := n1_; have HB := n2_; have HO388 := n3_; clear n0_ n1_ n2_ n3_; clear ho hb hg hat)))
            go_roundg k3
            case measure => have := HK1.out; have := HJ8.out; have := HK3.out; omega
            case rel => exact ⟨(y386), (wrap64 (x9_1 + 1)), (by first|rfl|(simp; done)|(simp [*]; done)), H', ⟨by have := HK1.out; have := HJ8.out; have := HK3.out; omega⟩, ⟨by (with_reducible repeat first|apply rA|apply rN|apply rD); exact HO388.out⟩, ⟨by (with_reducible repeat first|apply rA|apply rN|apply rD); exact Kd.R_mono HO_6.out (fun _ hk => ⟨hk.2, hk.1⟩)⟩, ⟨by (with_reducible repeat first|apply rA|apply rN|apply rD); exact Kd.R_mono HO_8.out (fun _ hk => ⟨hk.2, hk.1⟩)⟩, ⟨by repeat (first|(with_reducible first|exact HB.out|apply bA|apply bN|apply bD)|exact HB.out)⟩⟩
           ·rw [if_neg c25] at H
            exact absurd H (by simp)
       ·rw [if_neg c13] at H
        exact absurd H (by simp)
      ·rw [if_neg c12] at H
       exact absurd H (by simp)
     ·replace c11 := Bool.eq_false_iff.mpr c11
      subst c11
      have H1 : (some x5_1) = some r := by rw [if_neg (show ¬ (false = true) by decide)] at H; exact H
      clear H
      have H := H1
      clear H1
      obtain rfl := Option.some.inj H
      go_wp2
      repeat (go_quiet (fail); try go_wp2)
      go_ret
      exact ⟨_, by first|rfl|(simp [errW_none, errW_some] <;> rfl)|(simp [*, errW_none, errW_some] <;> rfl), by (with_reducible repeat first|apply rA|apply rN|apply rD); exact Kd.R_mono HO_5.out (fun _ hk => trivial), by repeat (first|(with_reducible first|exact HB.out|apply bA|apply bN|apply bD)|exact HB.out)⟩

/-! ### impl_FlatOk: function 34 -/
def impl_FlatOk.f (k : Nat) (l0 : List Int) (l1 : List Int) : Option (Bool) := (impl_HeightRow.f k l0 l1).bind fun bt389 => (some bt389.2)
theorem impl_FlatOk.mono : ∀ a0 a1 k, LeO (impl_FlatOk.f k a0 a1) (impl_FlatOk.f (k + 1) a0 a1) := by
 intro a0 a1 k
 unfold impl_FlatOk.f
 repeat' first|(with_reducible first|exact impl_HeightRow.mono _ _ _|exact LeO.refl _|exact LeO.none _|refine LeO.ite ?_ ?_|refine LeO.bind ?_ (fun _ => ?_))|exact impl_HeightRow.mono _ _ _|exact LeO.none _|refine LeO.ite ?_ ?_|refine LeO.bind ?_ (fun _ => ?_)
set_option maxHeartbeats 8000000 in
set_option maxRecDepth 100000 in
theorem impl_FlatOk.calls (k : Nat) (A0 : Option Addr) (c0 : Nat) (l0 : List Int) (A1 : Option Addr) (c1 : Nat) (l1 : List Int) (r : Bool) (w : World) (hr0 : Kd.C (Kd.int .i64) w A0 l0.length l0) (hc0 : l0.length ≤ c0) (hr1 : Kd.C (Kd.int .i64) w A1 l1.length l1) (hc1 : l1.length ≤ c1) (h : impl_FlatOk.f k l0 l1 = some r) :
  Calls Try.prog 34 #[.slice A0 l0.length c0, .slice A1 l1.length c1] w fun e w' => e = .returned (.bool r) ∧ Below w.heap.size w w' := by
 have HR0 := Aside0.mk hr0
 have HC0 := Aside0.mk hc0
 clear hr0 hc0
 have HR1 := Aside0.mk hr1
 have HC1 := Aside0.mk hc1
 clear hr1 hc1
 have HB := Aside0.mk (Below.refl w.heap.size w)
 have H : ((impl_HeightRow.f k l0 l1).bind fun bt389 => (some bt389.2)) = some r := h
 clear h
 replace H := Option.bind_eq_some_iff.mp H
 obtain ⟨⟨t389, t390⟩, A30, H⟩ := H
 replace H : (some t390) = some r := H
 have A3 := Aside0.mk A30
 clear A30
 obtain rfl := Option.some.inj H
 go_enter Try.func34, Try.ntmps34
 go_wp2_with (first|((with_reducible refine gate_callee (f := 35) rfl ?_); refine goesL_ (some 10) rfl rfl Try.func35 (by kernel_rfl) rfl #[.slice A0 l0.length c0, .slice A1 l1.length c1] rfl (by (try simp only [List.map_toArray, List.map_cons, List.map_nil]); first|done|rfl|(simp only [List.length_drop, List.length_take]; rfl)) ?_; (with_reducible refine (impl_HeightRow.calls k _ _ l0 _ _ l1 t389 t390 _ ?side1 ?side2 ?side3 ?side4 A3.out).mono ?_); (case side1 => repeat (first|exact HR0.out|(with_reducible first|refine cA ?_ _|refine cN ?_ _|refine cD ?_))); (case side2 => exact HC0.out); (case side3 => repeat (first|exact HR1.out|(with_reducible first|refine cA ?_ _|refine cN ?_ _|refine cD ?_))); (case side4 => exact HC1.out); rintro e w4 ⟨v391, rfl, ho0, hb⟩; refine ⟨_, rfl, ?_⟩; have n0_ := Aside0.mk (Kd.R_lower ho0 (below_size (by repeat (first|(with_reducible first|exact HB.out|apply bA|apply bN|apply bD)|exact HB.out)))); have n1_ := Aside0.mk (below_step (by repeat (first|(with_reducible first|exact HB.out|apply bA|apply bN|apply bD)|exact HB.out)) hb); clear HB; have HO392 := n0_; have HB := n1_; clear n0_ n1_; (try clear hb); (try clear hb2); (try clear hk); (try clear hi); (try clear ho0)))
 go_ret
 exact ⟨by first|rfl|(simp [errW_none, errW_some] <;> rfl)|(simp [*, errW_none, errW_some] <;> rfl), by repeat (first|(with_reducible first|exact HB.out|apply bA|apply bN|apply bD)|exact HB.out)⟩

/-! ### impl_TurnedRow: function 36 -/
mutual
def impl_TurnedRow.j0 : Nat → List Int → List Int → Int → Bool → Option (List Int)
 | 0, _, _, _, _ => none
 | k + 1, x0, x1, x2, x21 => if x21 = true then (some ([] : List Int)) else (if 0 ≤ (x0.length : Int) then (if ((x0.length : Int) : Int).toNat ≤ 35184372088832 then (impl_TurnedRow.l0 k x0 x1 (List.replicate ((x0.length : Int) : Int).toNat 0) x2 0) else (none)) else (none))
def impl_TurnedRow.l0 : Nat → List Int → List Int → List Int → Int → Int → Option (List Int)
 | 0, _, _, _, _, _ => none
 | k + 1, x0, x1, x7, x25, x26 => if x26 < x25 then ((impl_turnStep.f k x0 x1).bind fun t270 => (impl_TurnedRow.l1 k x0 x1 x7 t270 x25 x26 (x7.length : Int) 0)) else (some x7)
def impl_TurnedRow.l1 : Nat → List Int → List Int → List Int → List Int → Int → Int → Int → Int → Option (List Int)
 | 0, _, _, _, _, _, _, _, _ => none
 | k + 1, x0, x1, x7, x8, x25, x26, x32, x33 => if x33 < x32 then (if 0 ≤ x33 then (if x33 < (x8.length : Int) then (if x33 < (x1.length : Int) then (if (rd x8 x33) = (rd x1 x33) then (impl_TurnedRow.l1 k x0 x1 x7 x8 x25 x26 x32 (wrap64 (x33 + 1))) else (if x33 < (x7.length : Int) then (impl_TurnedRow.l1 k x0 x1 (x7.set (x33 : Int).toNat (wrap64 ((rd x7 x33) + 1))) x8 x25 x26 x32 (wrap64 (x33 + 1))) else (none))) else (none)) else (none)) else (none)) else (impl_TurnedRow.l0 k x0 x8 x7 x25 (wrap64 (x26 + 1)))
end
def impl_TurnedRow.f (k : Nat) (l0 : List Int) (l1 : List Int) (a2 : Int) : Option (List Int) := (impl_asked.f k l0 3 l1).bind fun t266 => (if t266 = true then (if a2 < 0 then (impl_TurnedRow.j0 k l0 l1 a2 true) else (impl_TurnedRow.j0 k l0 l1 a2 (decide (a2 > 60)))) else (impl_TurnedRow.j0 k l0 l1 a2 true))
theorem impl_TurnedRow.mono_l : ∀ k, (∀ y0 y1 y2 y3, LeO (impl_TurnedRow.j0 k y0 y1 y2 y3) (impl_TurnedRow.j0 (k + 1) y0 y1 y2 y3)) ∧ (∀ y0 y1 y2 y3 y4, LeO (impl_TurnedRow.l0 k y0 y1 y2 y3 y4) (impl_TurnedRow.l0 (k + 1) y0 y1 y2 y3 y4)) ∧ (∀ y0 y1 y2 y3 y4 y5 y6 y7, LeO (impl_TurnedRow.l1 k y0 y1 y2 y3 y4 y5 y6 y7) (impl_TurnedRow.l1 (k + 1) y0 y1 y2 y3 y4 y5 y6 y7))
 | 0 => ⟨fun _ _ _ _ r h => by simp [impl_TurnedRow.j0] at h, fun _ _ _ _ _ r h => by simp [impl_TurnedRow.l0] at h, fun _ _ _ _ _ _ _ _ r h => by simp [impl_TurnedRow.l1] at h⟩
 | k + 1 => by
  obtain ⟨ih0, ih1, ih2⟩ := impl_TurnedRow.mono_l k
  refine ⟨?_, ?_, ?_⟩
  ·intro y0 y1 y2 y3
   unfold impl_TurnedRow.j0
   repeat' first|(with_reducible first|exact ih0 _ _ _ _|exact ih1 _ _ _ _ _|exact ih2 _ _ _ _ _ _ _ _|exact impl_asked.mono _ _ _ _|exact impl_turnStep.mono _ _ _|exact LeO.refl _|exact LeO.none _|refine LeO.ite ?_ ?_|refine LeO.bind ?_ (fun _ => ?_))|exact ih0 _ _ _ _|exact ih1 _ _ _ _ _|exact ih2 _ _ _ _ _ _ _ _|exact impl_asked.mono _ _ _ _|exact impl_turnStep.mono _ _ _|exact LeO.none _|refine LeO.ite ?_ ?_|refine LeO.bind ?_ (fun _ => ?_)
  ·intro y0 y1 y2 y3 y4
   unfold impl_TurnedRow.l0
   repeat' first|(with_reducible first|exact ih0 _ _ _ _|exact ih1 _ _ _ _ _|exact ih2 _ _ _ _ _ _ _ _|exact impl_asked.mono _ _ _ _|exact impl_turnStep.mono _ _ _|exact LeO.refl _|exact LeO.none _|refine LeO.ite ?_ ?_|refine LeO.bind ?_ (fun _ => ?_))|exact ih0 _ _ _ _|exact ih1 _ _ _ _ _|exact ih2 _ _ _ _ _ _ _ _|exact impl_asked.mono _ _ _ _|exact impl_turnStep.mono _ _ _|exact LeO.none _|refine LeO.ite ?_ ?_|refine LeO.bind ?_ (fun _ => ?_)
  ·intro y0 y1 y2 y3 y4 y5 y6 y7
   unfold impl_TurnedRow.l1
   repeat' first|(with_reducible first|exact ih0 _ _ _ _|exact ih1 _ _ _ _ _|exact ih2 _ _ _ _ _ _ _ _|exact impl_asked.mono _ _ _ _|exact impl_turnStep.mono _ _ _|exact LeO.refl _|exact LeO.none _|refine LeO.ite ?_ ?_|refine LeO.bind ?_ (fun _ => ?_))|exact ih0 _ _ _ _|exact ih1 _ _ _ _ _|exact ih2 _ _ _ _ _ _ _ _|exact impl_asked.mono _ _ _ _|exact impl_turnStep.mono _ _ _|exact LeO.none _|refine LeO.ite ?_ ?_|refine LeO.bind ?_ (fun _ => ?_)
theorem impl_TurnedRow.mono : ∀ a0 a1 a2 k, LeO (impl_TurnedRow.f k a0 a1 a2) (impl_TurnedRow.f (k + 1) a0 a1 a2) := by
 intro a0 a1 a2 k
 obtain ⟨ih0, ih1, ih2⟩ := impl_TurnedRow.mono_l k
 unfold impl_TurnedRow.f
 repeat' first|(with_reducible first|exact ih0 _ _ _ _|exact ih1 _ _ _ _ _|exact ih2 _ _ _ _ _ _ _ _|exact impl_asked.mono _ _ _ _|exact impl_turnStep.mono _ _ _|exact LeO.refl _|exact LeO.none _|refine LeO.ite ?_ ?_|refine LeO.bind ?_ (fun _ => ?_))|exact ih0 _ _ _ _|exact ih1 _ _ _ _ _|exact ih2 _ _ _ _ _ _ _ _|exact impl_asked.mono _ _ _ _|exact impl_turnStep.mono _ _ _|exact LeO.none _|refine LeO.ite ?_ ?_|refine LeO.bind ?_ (fun _ => ?_)
theorem impl_TurnedRow.C_set {w : World} {A : Option Addr} {n g j : Nat} {xs : List Int} {u : Value} (h : Kd.C (Kd.int .i64) w A n xs) (hne : 0 < n → ∀ ad, A = some ad → ad.block ≠ g) : Kd.C (Kd.int .i64) (w.setCell ⟨g, j, none⟩ u) A n xs := by
 refine ⟨h.1, h.2.1, fun hn => ?_⟩
 obtain ⟨ad, e, hc⟩ := h.2.2 hn
 refine ⟨ad, e, fun j2 p hj => ?_⟩
 obtain ⟨c, hs, hr, hcell⟩ := hc j2 p hj
 refine ⟨c, hs, hr, fun i u2 hu => ?_⟩
 exact (World.cell?_of_block (a := ad.add (j2 * (Kd.int .i64).sz + i)) (Below.heap_setCell w ⟨g, j, none⟩ u _ (by rw [add_block]; exact hne hn ad e))).trans (hcell i u2 hu)
theorem impl_TurnedRow.C_block {w : World} {A : Option Addr} {n : Nat} {xs : List Int} (h : Kd.C (Kd.int .i64) w A n xs) (hn : 0 < n) : ∀ ad, A = some ad → ad.block < w.heap.size := by
 intro ad e
 obtain ⟨ad', e', hc⟩ := Kd.at_int h 0 (by omega) (by omega)
 rw [e] at e'
 injection e' with e'
 subst e'
 have h1 : w.cell? (ad.add (0 : Int).toNat) = _ := hc
 unfold World.cell? at h1
 have e2 : (ad.add (0 : Int).toNat).block = ad.block := rfl
 rw [e2] at h1
 cases hx : w.heap[ad.block]? with
 | none => rw [hx] at h1; simp at h1
 | some o => exact (Array.getElem?_eq_some_iff.1 hx).1
set_option maxHeartbeats 8000000 in
set_option maxRecDepth 100000 in
theorem impl_TurnedRow.calls (k : Nat) (A0 : Option Addr) (c0 : Nat) (l0 : List Int) (A1 : Option Addr) (c1 : Nat) (l1 : List Int) (a2 : Int) (r : List Int) (w : World) (hr0 : Kd.C (Kd.int .i64) w A0 l0.length l0) (hc0 : l0.length ≤ c0) (hr1 : Kd.C (Kd.int .i64) w A1 l1.length l1) (hc1 : l1.length ≤ c1) (h : impl_TurnedRow.f k l0 l1 a2 = some r) :
  Calls Try.prog 36 #[.slice A0 l0.length c0, .slice A1 l1.length c1, .int .i64 a2] w fun e w' => ∃ v0_ : Value, e = .returned (v0_) ∧ Kd.R (Kd.int .i64) 3 w' w.heap.size (fun _ => True) v0_ r ∧ Below w.heap.size w w' := by
 have HR0 := Aside0.mk hr0
 have HC0 := Aside0.mk hc0
 clear hr0 hc0
 have HR1 := Aside0.mk hr1
 have HC1 := Aside0.mk hc1
 clear hr1 hc1
 unfold impl_TurnedRow.f at h
 replace h := Option.bind_eq_some_iff.mp h
 obtain ⟨t, hA, h⟩ := h
 have HA := Aside0.mk hA
 clear hA
 have hnil : ∀ {k' : Nat}, impl_TurnedRow.j0 k' l0 l1 a2 true = some r → r = [] := by
  intro k' h'
  cases k' with
  | zero => simp [impl_TurnedRow.j0] at h'
  | succ k' => simp [impl_TurnedRow.j0] at h'; exact h'
 have HNIL := Aside0.mk @hnil
 clear hnil
 cases t with
 | false =>
  obtain rfl := HNIL.out (by simpa using h)
  clear h HNIL
  go_enter Try.func36, Try.ntmps36
  go_wp2_with (first|(go_at_call 61; (with_reducible refine (impl_asked.calls k A0 c0 l0 3 A1 c1 l1 false _ HR0.out HC0.out HR1.out HC1.out HA.out).mono ?_); rintro e w2 ⟨rfl, ⟨nd, rfl⟩⟩))
  go_ret
  exact ⟨_, rfl, Kd.R_nil _ _ _ _ _, pw_below_drewN (Below.refl _ _) nd⟩
 | true =>
  rw [if_pos rfl] at h
  by_cases h1 : a2 < 0
  ·rw [if_pos h1] at h
   obtain rfl := HNIL.out h
   clear h HNIL
   have h1b : decide (a2 < 0) = true := decide_eq_true h1
   clear h1
   go_enter Try.func36, Try.ntmps36
   go_wp2_with (first|(go_at_call 61; (with_reducible refine (impl_asked.calls k A0 c0 l0 3 A1 c1 l1 true _ HR0.out HC0.out HR1.out HC1.out HA.out).mono ?_); rintro e w2 ⟨rfl, ⟨nd, rfl⟩⟩))
   go_ret
   exact ⟨_, rfl, Kd.R_nil _ _ _ _ _, pw_below_drewN (Below.refl _ _) nd⟩
  ·rw [if_neg h1] at h
   have h1b : decide (a2 < 0) = false := decide_eq_false h1
   clear h1
   by_cases h2 : a2 > 60
   ·have h2b : decide (a2 > 60) = true := decide_eq_true h2
    rw [h2b] at h
    obtain rfl := HNIL.out h
    clear h HNIL h2
    go_enter Try.func36, Try.ntmps36
    go_wp2_with (first|(go_at_call 61; (with_reducible refine (impl_asked.calls k A0 c0 l0 3 A1 c1 l1 true _ HR0.out HC0.out HR1.out HC1.out HA.out).mono ?_); rintro e w2 ⟨rfl, ⟨nd, rfl⟩⟩))
    go_ret
    exact ⟨_, rfl, Kd.R_nil _ _ _ _ _, pw_below_drewN (Below.refl _ _) nd⟩
   ·have h2b : decide (a2 > 60) = false := decide_eq_false h2
    rw [h2b] at h
    clear h2 HNIL
    cases k with
    | zero => exact absurd h (by simp [impl_TurnedRow.j0])
    | succ kj =>
     simp only [impl_TurnedRow.j0] at h
     rw [if_neg (by simp), if_pos (by omega)] at h
     by_cases hz : ((l0.length : Int) : Int).toNat ≤ 35184372088832
     ·rw [if_pos hz] at h
      have HZ := Aside0.mk hz
      clear hz
      have H' := Aside0.mk h
      clear h
      go_enter Try.func36, Try.ntmps36
      go_wp2_with (first|(go_at_call 61; (with_reducible refine (impl_asked.calls _ A0 c0 l0 3 A1 c1 l1 true _ HR0.out HC0.out HR1.out HC1.out HA.out).mono ?_); rintro e w2 ⟨rfl, ⟨nd, rfl⟩⟩)|((with_reducible refine gate_dst (N := 24) rfl ?_); refine Kd.R_make (Kd.int .i64) (w0 := w) w.heap.size 3 rfl (N := 24) rfl 30 _ _ rfl (l0.length : Int) rfl rfl Try.underlying30 (.int .i64 0) 8 info3 rfl (by decide) (by omega) 0 (ok := fun _ => True) (okp := fun _ => True) rfl (fun _ hk => hk) trivial (by omega) (Nat.le_trans (Nat.mul_le_mul_right _ HZ.out) (by omega)) (pw_below_drewN (Below.refl _ _) nd) (Nat.le_refl _) ?_; intro vo w3 ho3 hb3 hg3 hn3; have HO := Aside0.mk ho3; have HB := Aside0.mk hb3; clear ho3 hb3 hg3 hn3))
      obtain ⟨Ao, co, eo⟩ := Kd.R_slice HO.out
      subst eo
      obtain ⟨M, hM⟩ : ∃ M, M = (List.replicate ((l0.length : Int) : Int).toNat (0 : Int)).length := ⟨_, rfl⟩
      rw [← hM] at HO ⊢
      clear hM
      have hbase := Kd.R_base HO.out
      have HBASE := Aside0.mk hbase
      clear hbase
      go_loopg [1, 26] kj (fun kq v1 v26 w' => ∃ (st x7 : List Int) (x26 : Int) (A : Option Addr) (c : Nat), v1 = .slice A st.length c ∧ v26 = .int .i64 x26 ∧ Aside0 (impl_TurnedRow.l0 kq l0 st x7 a2 x26 = some r) ∧ Aside0 (kq ≤ kj) ∧ Aside0 (Kd.C (Kd.int .i64) w' A st.length st) ∧ Aside0 (st.length ≤ c) ∧ Aside0 (0 < st.length → ∀ ad, A = some ad → ∀ g, (Value.slice Ao M co).ownBlock = some g → ad.block ≠ g) ∧ Aside0 (Kd.R (Kd.int .i64) 3 w' w.heap.size (fun _ => True) (.slice Ao M co) x7) ∧ Aside0 (Below w.heap.size w w'))
      case atStart => exact ⟨l1, _, 0, A1, c1, rfl, rfl, H', ⟨Nat.le_refl _⟩, ⟨Kd.C_below HR1.out HB.out⟩, HC1, ⟨fun hp ad e g hg => by have h1 := impl_TurnedRow.C_block HR1.out hp ad e; have h2 := HBASE.out g hg; omega⟩, HO, HB⟩
      case round =>
       clear H'
       obtain ⟨st, x7, x26, A, c, rfl, rfl, HL, HK, HS, HC, HF, HO, HB⟩ := hrel
       have hxl := (Kd.R_reads' HO.out).1
       have HXL := Aside0.mk hxl
       clear hxl
       cases gk with
       | zero => exact absurd HL.out (by simp [impl_TurnedRow.l0])
       | succ k2 =>
        have H := HL.out
        clear HL
        simp only [impl_TurnedRow.l0] at H
        by_cases c13 : x26 < a2
        ·rw [if_pos c13] at H
         have c13b0 : decide (x26 < a2) = true := decide_eq_true c13
         clear c13
         replace H := Option.bind_eq_some_iff.mp H
         obtain ⟨y, hY, H⟩ := H
         rw [← HXL.out] at H
         have HY := Aside0.mk hY
         clear hY
         have H' := Aside0.mk H
         clear H
         go_wp2_with (first|(go_at_call 64; (with_reducible refine (impl_turnStep.calls k2 A0 c0 l0 A c st y _ (Kd.C_below HR0.out HB.out) HC0.out HS.out HC.out HY.out).mono ?_); rintro e w4 ⟨v0, rfl, ho4, hb4⟩; have HO4 := Aside0.mk ho4; have HB4 := Aside0.mk hb4; clear ho4 hb4; obtain ⟨A4, c4, rfl, hc4, hC4⟩ := Kd.R_reads HO4.out; have HC4 := Aside0.mk hc4; have HS4 := Aside0.mk hC4; clear hc4 hC4))
         have HF4 : Aside0 (0 < y.length → ∀ ad, A4 = some ad → ∀ g, (Value.slice Ao M co).ownBlock = some g → ad.block ≠ g) := ⟨fun hp ad e g hg => by
          have h1 := Kd.R_lt HO.out g hg
          obtain ⟨g4, cap4, e4, hg4, _⟩ := Kd.R_form HO4.out hp
          injection e4 with e4
          rw [e] at e4
          injection e4 with e4
          subst e4
          show g4 ≠ g
          omega⟩
         have HS2 := Aside0.mk (Kd.C_below HS.out HB4.out)
         have HO2 := Aside0.mk (Kd.R_below HO.out HB4.out)
         have HB2 := Aside0.mk (below_step HB.out HB4.out)
         clear HO4 HB4 HS HO HB HXL
         go_loopg [33] k2 (fun kq v33 w' => ∃ (x7' : List Int) (x33 : Int), v33 = .int .i64 x33 ∧ Aside0 (impl_TurnedRow.l1 kq l0 st x7' y a2 x26 (M : Int) x33 = some r) ∧ Aside0 (kq ≤ k2) ∧ Aside0 (Kd.C (Kd.int .i64) w' A st.length st) ∧ Aside0 (Kd.C (Kd.int .i64) w' A4 y.length y) ∧ Aside0 (Kd.R (Kd.int .i64) 3 w' w.heap.size (fun _ => True) (.slice Ao M co) x7') ∧ Aside0 (Below w.heap.size w w'))
         case atStart => exact ⟨x7, 0, rfl, H', ⟨Nat.le_refl _⟩, HS2, HS4, HO2, HB2⟩
         case round =>
          clear H' HS2 HS4 HO2 HB2
          obtain ⟨x7', x33, rfl, HL, HK2, HS, HS4, HO, HB⟩ := hrel
          cases gk with
          | zero => exact absurd HL.out (by simp [impl_TurnedRow.l1])
          | succ k3 =>
           have H := HL.out
           clear HL
           simp only [impl_TurnedRow.l1] at H
           by_cases c18 : x33 < (M : Int)
           ·rw [if_pos c18] at H
            have c18b0 : decide (x33 < (M : Int)) = true := decide_eq_true c18
            by_cases c19 : 0 ≤ x33
            ·rw [if_pos c19] at H
             have c19b0 : decide (0 ≤ x33) = true := decide_eq_true c19
             by_cases c20 : x33 < (y.length : Int)
             ·rw [if_pos c20] at H
              have c20b0 : decide (x33 < (y.length : Int)) = true := decide_eq_true c20
              by_cases c21 : x33 < (st.length : Int)
              ·rw [if_pos c21] at H
               have c21b0 : decide (x33 < (st.length : Int)) = true := decide_eq_true c21
               obtain ⟨ad4, e4, hx4⟩ := Kd.at_int HS4.out x33 c19 c20
               obtain ⟨ad1, e1, hx1⟩ := Kd.at_int HS.out x33 c19 c21
               subst e4
               subst e1
               by_cases c22 : (rd y x33) = (rd st x33)
               ·rw [if_pos c22] at H
                have c22b1 : ((rd y x33) != (rd st x33)) = false := bne_eq_false_iff_eq.mpr c22
                clear c22
                have H' := Aside0.mk H
                clear H
                go_wp2_with (fail)
                go_quiet (fail)
                (try go_wp2_with (fail))
                go_roundg k3
                case measure => have := HK2.out; omega
                case rel => exact ⟨x7', wrap64 (x33 + 1), rfl, H', ⟨by have := HK2.out; omega⟩, ⟨by first|exact HS.out|exact Kd.C_drewN HS.out _⟩, ⟨by first|exact HS4.out|exact Kd.C_drewN HS4.out _⟩, ⟨by first|exact HO.out|exact Kd.R_drewN HO.out _⟩, ⟨by first|exact HB.out|exact pw_below_drewN HB.out _⟩⟩
               ·rw [if_neg c22] at H
                have c22b1 : ((rd y x33) != (rd st x33)) = true := bne_iff_ne.mpr c22
                clear c22
                have hxl := (Kd.R_reads' HO.out).1
                rw [if_pos (by rw [← hxl]; exact c18)] at H
                clear hxl
                have H' := Aside0.mk H
                clear H
                obtain ⟨go, co', eo', gb, gl, hcells⟩ := Kd.R_form HO.out (by have := (Kd.R_reads' HO.out).1; omega)
                injection eo' with ea en ec
                subst ea
                clear en ec
                have GB := Aside0.mk gb
                clear gb gl hcells
                obtain ⟨hx7, hf7⟩ := Kd.R_celln 0 HO.out x33 c19 c18
                go_wp2_with (fail)
                go_quiet (fail)
                (try go_wp2_with (fail))
                go_roundg k3
                case measure => have := HK2.out; omega
                case rel => exact ⟨x7'.set x33.toNat (wrap64 (rd x7' x33 + 1)), wrap64 (x33 + 1), rfl, H', ⟨by have := HK2.out; omega⟩, ⟨impl_TurnedRow.C_set (Kd.C_drewN HS.out _) (fun hp ad e => HF.out hp ad e go rfl)⟩, ⟨impl_TurnedRow.C_set (Kd.C_drewN HS4.out _) (fun hp ad e => HF4.out hp ad e go rfl)⟩, ⟨Kd.R_putn (Kd.R_drewN HO.out _) x33 _⟩, ⟨below_set (pw_below_drewN HB.out _) GB.out⟩⟩
              ·rw [if_neg c21] at H
               exact absurd H (by simp)
             ·rw [if_neg c20] at H
              exact absurd H (by simp)
            ·rw [if_neg c19] at H
             exact absurd H (by simp)
           ·rw [if_neg c18] at H
            have c18b0 : decide (x33 < (M : Int)) = false := decide_eq_false c18
            clear c18
            have H' := Aside0.mk H
            clear H
            go_wp2
            go_roundg k3
            case measure => have := HK2.out; omega
            case rel => exact ⟨y, x7', wrap64 (x26 + 1), A4, c4, rfl, rfl, H', ⟨by have := HK2.out; have := HK.out; omega⟩, HS4, HC4, HF4, HO, HB⟩
        ·rw [if_neg c13] at H
         have c13b0 : decide (x26 < a2) = false := decide_eq_false c13
         clear c13
         obtain rfl := Option.some.inj H
         go_wp2
         go_ret
         exact ⟨_, rfl, HO.out, HB.out⟩
     ·rw [if_neg hz] at h
      exact absurd h (by simp)

end Go.Proofs.Ytbbafjmfdbjkaaa.PFnPeakRow
