-- Written by a program of this session (the kit's print, changed).
import Derived.Test.YtkofidpgbmajdaaSq
import Derived.Test.YtkofidpgbmajdaaPFnBestTourx0
import Derived.Test.YtkofidpgbmajdaaPFnBestTourx6
import Derived.Test.YtkofidpgbmajdaaPFnBestTourx8
namespace Go.Proofs.Ytkofidpgbmajdaa.PFnBestTour
open Go.RowKit Go.Proofs.YtkofidpgbmajdaaW.PrintWords Go.Proofs.YtkofidpgbmajdaaW.PrintLast Go.Proofs.YtkofidpgbmajdaaW.PrintMore
attribute [local go_sem] max2_int min2_int max_two min_two max_three min_three max_four min_four   -- for this text's walks alone
set_option linter.unusedVariables false
set_option linter.unusedSimpArgs false

/-! ### spec_l20Tour: function 34 -/
mutual
def spec_l20Tour.l0 : Nat → List Int → List Int → Int → List Int → Int → Option (List Int × Int)
 | 0, _, _, _, _, _ => none
 | k + 1, x1, x5, x6, x1000, x1001 => if x6 > 0 then (if 0 ≤ (wrap64 ((x5.length : Int) - 1)) then (if (wrap64 ((x5.length : Int) - 1)) < (x5.length : Int) then ((spec_l20Rd_pick.f k x1000 x1001 (x1.length : Int)).bind fun bt369 => (spec_l20Tour.l1 k x1 x5 x6 (rd x5 (wrap64 ((x5.length : Int) - 1))) bt369.1 0 x1000 bt369.2)) else (none)) else (none)) else ((spec_l20Rd_odd.f k x1000 x1001 14).bind fun bt375 => (if bt375.1 = true then ((spec_l20Rd_pick.f k x1000 bt375.2 7).bind fun bt377 => (if x5.length < 17592186044416 then (some ((x5 ++ [bt377.1]), bt377.2)) else (none))) else (some (x5, bt375.2))))
def spec_l20Tour.l1 : Nat → List Int → List Int → Int → Int → Int → Int → List Int → Int → Option (List Int × Int)
 | 0, _, _, _, _, _, _, _, _ => none
 | k + 1, x1, x5, x6, x7, x8, x9, x1000, x1001 => if x9 < (x1.length : Int) then (if (x1.length : Int) = 0 then (none) else (if 0 ≤ x7 then (if x7 < (x1.length : Int) then (if 0 ≤ (Int.tmod (wrap64 (x8 + x9)) (x1.length : Int)) then (if (Int.tmod (shr .i64 (rd x1 x7) (Int.tmod (wrap64 (x8 + x9)) (x1.length : Int))) 2) = 1 then (if x5.length < 17592186044416 then (spec_l20Tour.l0 k x1 (x5 ++ [Int.tmod (wrap64 (x8 + x9)) (x1.length : Int)]) (wrap64 (x6 - 1)) x1000 x1001) else (none)) else (spec_l20Tour.l1 k x1 x5 x6 x7 x8 (wrap64 (x9 + 1)) x1000 x1001)) else (none)) else (none)) else (none))) else (spec_l20Tour.l0 k x1 x5 (wrap64 (x6 - 1)) x1000 x1001)
end
def spec_l20Tour.f (k : Nat) (s0_0 : List Int) (s0_1 : Int) (l1 : List Int) : Option (List Int × Int) := if (l1.length : Int) = 0 then (some ((([0] : List Int)), s0_1)) else ((spec_l20Rd_pick.f k s0_0 s0_1 (l1.length : Int)).bind fun bt361 => ((spec_l20Rd_pick.f k s0_0 bt361.2 9).bind fun bt366 => (spec_l20Tour.l0 k l1 (([bt361.1] : List Int)) bt366.1 s0_0 bt366.2)))
theorem spec_l20Tour.mono_l : ∀ k, (∀ y0 y1 y2 y3 y4, LeO (spec_l20Tour.l0 k y0 y1 y2 y3 y4) (spec_l20Tour.l0 (k + 1) y0 y1 y2 y3 y4)) ∧ (∀ y0 y1 y2 y3 y4 y5 y6 y7, LeO (spec_l20Tour.l1 k y0 y1 y2 y3 y4 y5 y6 y7) (spec_l20Tour.l1 (k + 1) y0 y1 y2 y3 y4 y5 y6 y7))
 | 0 => ⟨fun _ _ _ _ _ r h => by simp [spec_l20Tour.l0] at h, fun _ _ _ _ _ _ _ _ r h => by simp [spec_l20Tour.l1] at h⟩
 | k + 1 => by
  obtain ⟨ih0, ih1⟩ := spec_l20Tour.mono_l k
  refine ⟨?_, ?_⟩
  ·intro y0 y1 y2 y3 y4
   unfold spec_l20Tour.l0
   repeat' first|(with_reducible first|exact ih0 _ _ _ _ _|exact ih1 _ _ _ _ _ _ _ _|exact spec_l20Rd_odd.mono _ _ _ _|exact spec_l20Rd_pick.mono _ _ _ _|exact LeO.refl _|exact LeO.none _|refine LeO.ite ?_ ?_|refine LeO.bind ?_ (fun _ => ?_))|exact ih0 _ _ _ _ _|exact ih1 _ _ _ _ _ _ _ _|exact spec_l20Rd_odd.mono _ _ _ _|exact spec_l20Rd_pick.mono _ _ _ _|exact LeO.none _|refine LeO.ite ?_ ?_|refine LeO.bind ?_ (fun _ => ?_)
  ·intro y0 y1 y2 y3 y4 y5 y6 y7
   unfold spec_l20Tour.l1
   repeat' first|(with_reducible first|exact ih0 _ _ _ _ _|exact ih1 _ _ _ _ _ _ _ _|exact spec_l20Rd_odd.mono _ _ _ _|exact spec_l20Rd_pick.mono _ _ _ _|exact LeO.refl _|exact LeO.none _|refine LeO.ite ?_ ?_|refine LeO.bind ?_ (fun _ => ?_))|exact ih0 _ _ _ _ _|exact ih1 _ _ _ _ _ _ _ _|exact spec_l20Rd_odd.mono _ _ _ _|exact spec_l20Rd_pick.mono _ _ _ _|exact LeO.none _|refine LeO.ite ?_ ?_|refine LeO.bind ?_ (fun _ => ?_)
theorem spec_l20Tour.mono : ∀ a0 a1 a2 k, LeO (spec_l20Tour.f k a0 a1 a2) (spec_l20Tour.f (k + 1) a0 a1 a2) := by
 intro a0 a1 a2 k
 obtain ⟨ih0, ih1⟩ := spec_l20Tour.mono_l k
 unfold spec_l20Tour.f
 repeat' first|(with_reducible first|exact ih0 _ _ _ _ _|exact ih1 _ _ _ _ _ _ _ _|exact spec_l20Rd_odd.mono _ _ _ _|exact spec_l20Rd_pick.mono _ _ _ _|exact LeO.refl _|exact LeO.none _|refine LeO.ite ?_ ?_|refine LeO.bind ?_ (fun _ => ?_))|exact ih0 _ _ _ _ _|exact ih1 _ _ _ _ _ _ _ _|exact spec_l20Rd_odd.mono _ _ _ _|exact spec_l20Rd_pick.mono _ _ _ _|exact LeO.none _|refine LeO.ite ?_ ?_|refine LeO.bind ?_ (fun _ => ?_)
set_option maxHeartbeats 8000000 in
set_option maxRecDepth 100000 in
theorem spec_l20Tour.calls (k : Nat) (g : Nat) (s0_0 : List Int) (s0_1 : Int) (A1 : Option Addr) (c1 : Nat) (l1 : List Int) (r1 : List Int) (r2 : Int) (w0 w : World) (hI : IsS54 w0 w g s0_0 s0_1) (hB : Below w0.heap.size w0 w) (hr1 : Kd.C (Kd.int .i64) w A1 l1.length l1) (hc1 : l1.length ≤ c1) (hf1 : ∀ ad, A1 = some ad → 0 < l1.length → ad.block ≠ g) (h : spec_l20Tour.f k s0_0 s0_1 l1 = some (r1, r2)) :
  Calls Try.prog 34 #[.pointer (some ⟨g, 0, none⟩), .slice A1 l1.length c1] w fun e w' => ∃ v0_ : Value, e = .returned (v0_) ∧ Kd.R (Kd.int .i64) 3 w' w.heap.size (fun _ => True) v0_ r1 ∧ IsS54 w0 w' g s0_0 r2 ∧ Below w0.heap.size w0 w' ∧ KeepBut w w' g none := by
 have HR1 := Aside0.mk hr1
 have HC1 := Aside0.mk hc1
 clear hr1 hc1
 have HI0 := Aside0.mk hI
 have HK := Aside0.mk (KeepBut.refl w g none)
 have HL := Aside0.mk hB.size
 clear hI
 have HW0 := Aside0.mk hB.size
 have HB := Aside0.mk hB
 clear hB
 have H : (if (l1.length : Int) = 0 then (some ((([0] : List Int)), s0_1)) else ((spec_l20Rd_pick.f k s0_0 s0_1 (l1.length : Int)).bind fun bt361 => ((spec_l20Rd_pick.f k s0_0 bt361.2 9).bind fun bt366 => (spec_l20Tour.l0 k l1 (([bt361.1] : List Int)) bt366.1 s0_0 bt366.2)))) = some (r1, r2) := h
 clear h
 by_cases c3 : (l1.length : Int) = 0
 ·rw [if_pos c3] at H
  have c3b0 : ((l1.length : Int) == 0) = true := beq_iff_eq.mpr c3
  have c3b1 : ((l1.length : Int) != 0) = false := bne_eq_false_iff_eq.mpr c3
  clear c3
  obtain ⟨y358, hy358⟩ : ∃ y_ : List Int, y_ = (([0] : List Int)) := ⟨_, rfl⟩
  replace H : (some (y358, s0_1)) = some (r1, r2) := by first|(rw [hy358]; with_reducible exact H)|(have H2_ := (Option.bind_some _ _).symm.trans H; rw [hy358]; with_reducible exact H2_)|(have H2_ := (Option.bind_some _ _).symm.trans H; with_reducible exact H2_)|with_reducible exact H|(rw [hy358]; exact H)|exact H
  have Ny358 := Aside0.mk hy358
  clear hy358
  simp only [Option.some.injEq, Prod.mk.injEq] at H
  obtain ⟨rfl, rfl⟩ := H
  go_enter Try.func34, Try.ntmps34
  go_wp2_with (first|((with_reducible refine gate_dst (N:=14) rfl ?_);refine Kd.R_lit (Kd.int .i64) _ 3 ?hg (N:=14) ?hd (xs:=([0] : List Int)) (inner:=[.int .i64 0]) (ok:=fun _ => True) (okp:=fun _ => True) ?hr ?hp (fun _ hk => hk) trivial (Below.refl _ _) (Nat.le_refl _) (by simp) ?_;(case hd => rfl);(case hg => rfl);(case hr => first|(go_simp;done)|(go_simp;rfl));(case hp => exact (Reps.one (show Kd.M (Kd.int .i64) _ _ _ 0 [.int .i64 0] from rfl) (Reps.none _ _)));intro v359 w4 ho5 hb hg_ hnew_;clear hg_ hnew_;(first|rw [← Ny358.out] at ho5|(simp only [Int.reduceToNat] at ho5;rw [← Ny358.out] at ho5));have n0_:=Aside0.mk (Kd.R_lower ho5 (keep_size (w:=w) (g:=g) (row:=none) (by repeat (first|(with_reducible first|exact HK.out|apply KeepBut.set_|apply keep_drewN|apply keep_drew|apply keep_alloc)|exact HK.out))));have n1_:=Aside0.mk (IsS54.below (by repeat (first|(with_reducible first|exact HI0.out|apply IsS54.alloc|apply IsS54.drewN|apply IsS54.drew|apply IsS54.set_1)|exact HI0.out)) hb);have n2_:=Aside0.mk (KeepBut.trans (by repeat (first|(with_reducible first|exact HK.out|apply KeepBut.set_|apply keep_drewN|apply keep_drew|apply keep_alloc)|exact HK.out)) (KeepBut.of_below hb g none) (.inl rfl));have n3_:=Aside0.mk (bT (by repeat (first|(with_reducible first|exact HB.out|apply bA|apply bN|apply bD|refine below_set ?_ (IsS54.ge HI0.out))|exact HB.out)) hb);clear HI0;clear HK;clear HB;have HO360:=n0_;have HI0:=n1_;have HK:=n2_;have HB:=n3_;clear n0_ n1_ n2_ n3_;clear hb ho5))
  go_ret
  exact ⟨_, by first|rfl|(simp [errW_none, errW_some] <;> rfl)|(simp [*, errW_none, errW_some] <;> rfl), by (with_reducible repeat first|apply rA|apply rN|apply rD); exact HO360.out, by repeat (first|(with_reducible first|exact HI0.out|apply IsS54.alloc|apply IsS54.drewN|apply IsS54.drew|apply IsS54.set_1)|exact HI0.out), by repeat (first|(with_reducible first|exact HB.out|apply bA|apply bN|apply bD|refine below_set ?_ (IsS54.ge HI0.out))|exact HB.out), by repeat (first|(with_reducible first|exact HK.out|apply KeepBut.set_|apply keep_drewN|apply keep_drew|apply keep_alloc)|exact HK.out)⟩
 ·rw [if_neg c3] at H
  have c3b0 : ((l1.length : Int) == 0) = false := beq_eq_false_iff_ne.mpr c3
  have c3b1 : ((l1.length : Int) != 0) = true := bne_iff_ne.mpr c3
  have c3b2 : ¬ (l1 = []) := fun h_ => c3 (by rw [h_]; rfl)
  replace H := Option.bind_eq_some_iff.mp H
  obtain ⟨⟨t361, t362⟩, A60, H⟩ := H
  replace H : ((spec_l20Rd_pick.f k s0_0 t362 9).bind fun bt366 => (spec_l20Tour.l0 k l1 (([t361] : List Int)) bt366.1 s0_0 bt366.2)) = some (r1, r2) := H
  have A6 := Aside0.mk A60
  clear A60
  obtain ⟨y363, hy363⟩ : ∃ y_ : List Int, y_ = (([t361] : List Int)) := ⟨_, rfl⟩
  replace H : ((spec_l20Rd_pick.f k s0_0 t362 9).bind fun bt366 => (spec_l20Tour.l0 k l1 y363 bt366.1 s0_0 bt366.2)) = some (r1, r2) := by first|(rw [hy363]; with_reducible exact H)|(have H2_ := (Option.bind_some _ _).symm.trans H; rw [hy363]; with_reducible exact H2_)|(have H2_ := (Option.bind_some _ _).symm.trans H; with_reducible exact H2_)|with_reducible exact H|(rw [hy363]; exact H)|exact H
  have Ny363 := Aside0.mk hy363
  clear hy363
  replace H := Option.bind_eq_some_iff.mp H
  obtain ⟨⟨t366, t367⟩, A70, H⟩ := H
  replace H : (spec_l20Tour.l0 k l1 y363 t366 s0_0 t367) = some (r1, r2) := H
  have A7 := Aside0.mk A70
  clear A70
  have H' := Aside0.mk H
  clear H
  go_enter Try.func34, Try.ntmps34
  go_wp2_with (first|((with_reducible refine gate_callee (f:=31) rfl ?_);refine goesL_ (some 18) rfl rfl Try.func31 (by kernel_rfl) rfl #[.pointer (some ⟨g,0,none⟩),.int .i64 (l1.length : Int)] rfl (by (try simp only [List.map_toArray,List.map_cons,List.map_nil]);first|done|rfl|(simp only [List.length_drop,List.length_take];rfl)) ?_;(with_reducible refine (spec_l20Rd_pick.calls k g s0_0 s0_1 (l1.length : Int) t361 t362 w0 _ ?side1 ?side2 A6.out).mono ?_);(case side1 => repeat (first|(with_reducible first|exact HI0.out|apply IsS54.alloc|apply IsS54.drewN|apply IsS54.drew|apply IsS54.set_1)|exact HI0.out));(case side2 => repeat (first|(with_reducible first|exact HB.out|apply bA|apply bN|apply bD|refine below_set ?_ (IsS54.ge HI0.out))|exact HB.out));rintro e w8 ⟨rfl,hi,hb,hk⟩;refine ⟨_,rfl,?_⟩;have n0_:=Aside0.mk (KeepBut.trans (by repeat (first|(with_reducible first|exact HK.out|apply KeepBut.set_|apply keep_drewN|apply keep_drew|apply keep_alloc)|exact HK.out)) hk (.inl rfl));have n1_:=Aside0.mk (hb);have n2_:=Aside0.mk (hi);clear HK;clear HB;clear HI0;have HK:=n0_;have HB:=n1_;have HI0:=n2_;clear n0_ n1_ n2_;(try clear hb);(try clear hb2);(try clear hk);(try clear hi))|((with_reducible refine gate_dst (N:=19) rfl ?_);refine Kd.R_lit (Kd.int .i64) _ 3 ?hg (N:=19) ?hd (xs:=([t361] : List Int)) (inner:=[.int .i64 t361]) (ok:=fun _ => True) (okp:=fun _ => True) ?hr ?hp (fun _ hk => hk) trivial (Below.refl _ _) (Nat.le_refl _) (by simp) ?_;(case hd => rfl);(case hg => rfl);(case hr => first|(go_simp;done)|(go_simp;rfl));(case hp => exact (Reps.one (show Kd.M (Kd.int .i64) _ _ _ t361 [.int .i64 t361] from rfl) (Reps.none _ _)));intro v364 w9 ho10 hb hg_ hnew_;clear hg_ hnew_;(first|rw [← Ny363.out] at ho10|(simp only [Int.reduceToNat] at ho10;rw [← Ny363.out] at ho10));have n0_:=Aside0.mk (Kd.R_lower ho10 (keep_size (w:=w) (g:=g) (row:=none) (by repeat (first|(with_reducible first|exact HK.out|apply KeepBut.set_|apply keep_drewN|apply keep_drew|apply keep_alloc)|exact HK.out))));have n1_:=Aside0.mk (IsS54.below (by repeat (first|(with_reducible first|exact HI0.out|apply IsS54.alloc|apply IsS54.drewN|apply IsS54.drew|apply IsS54.set_1)|exact HI0.out)) hb);have n2_:=Aside0.mk (KeepBut.trans (by repeat (first|(with_reducible first|exact HK.out|apply KeepBut.set_|apply keep_drewN|apply keep_drew|apply keep_alloc)|exact HK.out)) (KeepBut.of_below hb g none) (.inl rfl));have n3_:=Aside0.mk (bT (by repeat (first|(with_reducible first|exact HB.out|apply bA|apply bN|apply bD|refine below_set ?_ (IsS54.ge HI0.out))|exact HB.out)) hb);clear HI0;clear HK;clear HB;have HO365:=n0_;have HI0:=n1_;have HK:=n2_;have HB:=n3_;clear n0_ n1_ n2_ n3_;clear hb ho10)|((with_reducible refine gate_callee (f:=31) rfl ?_);refine goesL_ (some 21) rfl rfl Try.func31 (by kernel_rfl) rfl #[.pointer (some ⟨g,0,none⟩),.int .i64 9] rfl (by (try simp only [List.map_toArray,List.map_cons,List.map_nil]);first|done|rfl|(simp only [List.length_drop,List.length_take];rfl)) ?_;(with_reducible refine (spec_l20Rd_pick.calls k g s0_0 t362 9 t366 t367 w0 _ ?side1 ?side2 A7.out).mono ?_);(case side1 => repeat (first|(with_reducible first|exact HI0.out|apply IsS54.alloc|apply IsS54.drewN|apply IsS54.drew|apply IsS54.set_1)|exact HI0.out));(case side2 => repeat (first|(with_reducible first|exact HB.out|apply bA|apply bN|apply bD|refine below_set ?_ (IsS54.ge HI0.out))|exact HB.out));rintro e w11 ⟨rfl,hi,hb,hk⟩;refine ⟨_,rfl,?_⟩;have n0_:=Aside0.mk (Kd.R_mono (Kd.R_keep (IsS54.apart (show IsS54 w0 _ g s0_0 t362 from by repeat (first|(with_reducible first|exact HI0.out|apply IsS54.alloc|apply IsS54.drewN|apply IsS54.drew|apply IsS54.set_1)|exact HI0.out)) (by (with_reducible repeat first|apply rA|apply rN|apply rD);exact HO365.out) (by decide)) hk (fun _ h => h.2)) (fun _ h => h.1));have n1_:=Aside0.mk (KeepBut.trans (by repeat (first|(with_reducible first|exact HK.out|apply KeepBut.set_|apply keep_drewN|apply keep_drew|apply keep_alloc)|exact HK.out)) hk (.inl rfl));have n2_:=Aside0.mk (hb);have n3_:=Aside0.mk (hi);clear HO365;clear HK;clear HB;clear HI0;have HO365:=n0_;have HK:=n1_;have HB:=n2_;have HI0:=n3_;clear n0_ n1_ n2_ n3_;(try clear hb);(try clear hb2);(try clear hk);(try clear hi)))
  go_loopg [5, 6] k (fun kq v5 v6 w' => ∃ (x5_1 : List Int) (x6_1 : Int) (x1001_1 : Int), v6 = .int .i64 x6_1 ∧ Aside0 (spec_l20Tour.l0 kq l1 x5_1 x6_1 s0_0 x1001_1 = some (r1, r2)) ∧ Aside0 (kq ≤ k) ∧ Aside0 (Kd.R (Kd.int .i64) 3 w' w.heap.size (fun _ => True) v5 x5_1) ∧ Aside0 (IsS54 w0 w' g s0_0 x1001_1) ∧ Aside0 (KeepBut w w' g none) ∧ Aside0 (Below w0.heap.size w0 w'))
  case atStart => exact ⟨(y363), (t366), (t367), (by first|rfl|(simp; done)|(simp [*]; done)), H', ⟨Nat.le_refl _⟩, ⟨by (with_reducible repeat first|apply rA|apply rN|apply rD); exact HO365.out⟩, ⟨by repeat (first|(with_reducible first|exact HI0.out|apply IsS54.alloc|apply IsS54.drewN|apply IsS54.drew|apply IsS54.set_1)|exact HI0.out)⟩, ⟨by repeat (first|(with_reducible first|exact HK.out|apply KeepBut.set_|apply keep_drewN|apply keep_drew|apply keep_alloc)|exact HK.out)⟩, ⟨by repeat (first|(with_reducible first|exact HB.out|apply bA|apply bN|apply bD|refine below_set ?_ (IsS54.ge HI0.out))|exact HB.out)⟩⟩
  case round =>
   clear H'
   try clear c1
   try clear p2
   try clear c3
   try clear c3b0
   try clear c3b1
   try clear c3b2
   obtain ⟨x5_1, x6_1, x1001_1, rfl, HA, HK1, HO_5, HI0, HK, HB⟩ := hrel
   cases gk with
   | zero => exact absurd HA.out (by simp [spec_l20Tour.l0])
   | succ k1 =>
    have H := HA.out
    clear HA
    simp only [spec_l20Tour.l0] at H
    by_cases c12 : x6_1 > 0
    ·rw [if_pos c12] at H
     have c12b0 : decide (0 < x6_1) = true := decide_eq_true c12
     clear c12
     obtain ⟨ji13, hji13⟩ : ∃ j_ : Int, (wrap64 ((x5_1.length : Int) - 1)) = j_ := ⟨_, rfl⟩
     replace H : (if 0 ≤ (ji13) then (if (ji13) < (x5_1.length : Int) then ((spec_l20Rd_pick.f k1 s0_0 x1001_1 (l1.length : Int)).bind fun bt369 => (spec_l20Tour.l1 k1 l1 x5_1 x6_1 (rd x5_1 (ji13)) bt369.1 0 s0_0 bt369.2)) else (none)) else (none)) = some (r1, r2) := by first|(rw [hji13] at H; exact H)|(simp only [hji13] at H ⊢; exact H)
     have hji13w : (IntKind.i64.wrap ((x5_1.length : Int) - 1)) = ji13 := (i64_w _).trans hji13
     by_cases c14 : 0 ≤ (ji13)
     ·rw [if_pos c14] at H
      have c14b0 : decide (0 ≤ (ji13)) = true := decide_eq_true c14
      clear c14
      by_cases c15 : (ji13) < (x5_1.length : Int)
      ·rw [if_pos c15] at H
       have c15b0 : decide ((ji13) < (x5_1.length : Int)) = true := decide_eq_true c15
       clear c15
       replace H := Option.bind_eq_some_iff.mp H
       obtain ⟨⟨t369, t370⟩, A160, H⟩ := H
       replace H : (spec_l20Tour.l1 k1 l1 x5_1 x6_1 (rd x5_1 (ji13)) t369 0 s0_0 t370) = some (r1, r2) := H
       have A16 := Aside0.mk A160
       clear A160
       have H' := Aside0.mk H
       clear H
       obtain ⟨Ao17, co17, eo17⟩ := kS HO_5.out
       subst eo17
       have p368 : 0 ≤ ((ji13) : Int) := oD (by first|(with_reducible assumption)|assumption)
       have q368 : (ji13) < (x5_1.length : Int) := oD (by first|(with_reducible assumption)|assumption)
       obtain ⟨ad368, e368, hx368_0⟩ := aI (kR HO_5.out).2.2 (ji13) p368 q368
       cases e368
       replace p368 := eq_true p368
       replace q368 := eq_true q368
       go_wp2_with (first|((with_reducible refine gate_callee (f:=31) rfl ?_);refine goesL_ (some 35) rfl rfl Try.func31 (by kernel_rfl) rfl #[.pointer (some ⟨g,0,none⟩),.int .i64 (l1.length : Int)] rfl (by (try simp only [List.map_toArray,List.map_cons,List.map_nil]);first|done|rfl|(simp only [List.length_drop,List.length_take];rfl)) ?_;(with_reducible refine (spec_l20Rd_pick.calls k1 g s0_0 x1001_1 (l1.length : Int) t369 t370 w0 _ ?side1 ?side2 A16.out).mono ?_);(case side1 => repeat (first|(with_reducible first|exact HI0.out|apply IsS54.alloc|apply IsS54.drewN|apply IsS54.drew|apply IsS54.set_1)|exact HI0.out));(case side2 => repeat (first|(with_reducible first|exact HB.out|apply bA|apply bN|apply bD|refine below_set ?_ (IsS54.ge HI0.out))|exact HB.out));rintro e w18 ⟨rfl,hi,hb,hk⟩;refine ⟨_,rfl,?_⟩;have n0_:=Aside0.mk (Kd.R_mono (Kd.R_keep (IsS54.apart (show IsS54 w0 _ g s0_0 x1001_1 from by repeat (first|(with_reducible first|exact HI0.out|apply IsS54.alloc|apply IsS54.drewN|apply IsS54.drew|apply IsS54.set_1)|exact HI0.out)) (by (with_reducible repeat first|apply rA|apply rN|apply rD);exact HO_5.out) (by decide)) hk (fun _ h => h.2)) (fun _ h => h.1));have n1_:=Aside0.mk (KeepBut.trans (by repeat (first|(with_reducible first|exact HK.out|apply KeepBut.set_|apply keep_drewN|apply keep_drew|apply keep_alloc)|exact HK.out)) hk (.inl rfl));have n2_:=Aside0.mk (hb);have n3_:=Aside0.mk (hi);clear HO_5;clear HK;clear HB;clear HI0;have HO_5:=n0_;have HK:=n1_;have HB:=n2_;have HI0:=n3_;clear n0_ n1_ n2_ n3_;(try clear hb);(try clear hb2);(try clear hk);(try clear hi)))
       go_loopg [5, 9] k1 (fun kq v5 v9 w' => ∃ (x5_2 : List Int) (x9_2 : Int), v9 = .int .i64 x9_2 ∧ Aside0 (spec_l20Tour.l1 kq l1 x5_2 x6_1 (rd x5_1 (ji13)) t369 x9_2 s0_0 t370 = some (r1, r2)) ∧ Aside0 (kq ≤ k1) ∧ Aside0 (Kd.R (Kd.int .i64) 3 w' w.heap.size (fun _ => True) v5 x5_2) ∧ Aside0 (IsS54 w0 w' g s0_0 t370) ∧ Aside0 (KeepBut w w' g none) ∧ Aside0 (Below w0.heap.size w0 w'))
       case atStart => exact ⟨(x5_1), (0), (by first|rfl|(simp; done)|(simp [*]; done)), H', ⟨Nat.le_refl _⟩, ⟨by (with_reducible repeat first|apply rA|apply rN|apply rD); exact HO_5.out⟩, ⟨by repeat (first|(with_reducible first|exact HI0.out|apply IsS54.alloc|apply IsS54.drewN|apply IsS54.drew|apply IsS54.set_1)|exact HI0.out)⟩, ⟨by repeat (first|(with_reducible first|exact HK.out|apply KeepBut.set_|apply keep_drewN|apply keep_drew|apply keep_alloc)|exact HK.out)⟩, ⟨by repeat (first|(with_reducible first|exact HB.out|apply bA|apply bN|apply bD|refine below_set ?_ (IsS54.ge HI0.out))|exact HB.out)⟩⟩
       case round =>
        clear H'
        try clear c1
        try clear p2
        try clear c3
        try clear c3b0
        try clear c3b1
        try clear c3b2
        try clear p3
        try clear q3
        try clear hx3
        try clear p6
        try clear c12
        try clear c12b0
        try clear c14
        try clear c14b0
        try clear c15
        try clear c15b0
        try clear hx368_0
        try clear p2
        try clear p368
        try clear q368
        obtain ⟨x5_2, x9_2, rfl, HA, HK2, HO_5, HI0, HK, HB⟩ := hrel
        cases gk with
        | zero => exact absurd HA.out (by simp [spec_l20Tour.l1])
        | succ k2 =>
         have H := HA.out
         clear HA
         simp only [spec_l20Tour.l1] at H
         by_cases c19 : x9_2 < (l1.length : Int)
         ·rw [if_pos c19] at H
          have c19b0 : decide (x9_2 < (l1.length : Int)) = true := decide_eq_true c19
          clear c19
          by_cases c20 : (l1.length : Int) = 0
          ·rw [if_pos c20] at H
           exact absurd H (by simp)
          ·rw [if_neg c20] at H
           have c20b0 : ((l1.length : Int) == 0) = false := beq_eq_false_iff_ne.mpr c20
           have c20b1 : ((l1.length : Int) != 0) = true := bne_iff_ne.mpr c20
           have c20b2 : ¬ (l1 = []) := fun h_ => c20 (by rw [h_]; rfl)
           by_cases c21 : 0 ≤ (rd x5_1 (ji13))
           ·rw [if_pos c21] at H
            have c21b0 : decide (0 ≤ (rd x5_1 (ji13))) = true := decide_eq_true c21
            clear c21
            by_cases c22 : (rd x5_1 (ji13)) < (l1.length : Int)
            ·rw [if_pos c22] at H
             have c22b0 : decide ((rd x5_1 (ji13)) < (l1.length : Int)) = true := decide_eq_true c22
             clear c22
             obtain ⟨ji23, hji23⟩ : ∃ j_ : Int, (Int.tmod (wrap64 (t369 + x9_2)) (l1.length : Int)) = j_ := ⟨_, rfl⟩
             replace H : (if 0 ≤ (ji23) then (if (Int.tmod (shr .i64 (rd l1 (rd x5_1 (ji13))) (ji23)) 2) = 1 then (if x5_2.length < 17592186044416 then (spec_l20Tour.l0 k2 l1 (x5_2 ++ [ji23]) (wrap64 (x6_1 - 1)) s0_0 t370) else (none)) else (spec_l20Tour.l1 k2 l1 x5_2 x6_1 (rd x5_1 (ji13)) t369 (wrap64 (x9_2 + 1)) s0_0 t370)) else (none)) = some (r1, r2) := by first|(rw [hji23] at H; exact H)|(simp only [hji23] at H ⊢; exact H)
             by_cases c24 : 0 ≤ (ji23)
             ·rw [if_pos c24] at H
              have c24b0 := eq_true c24
              have c24b1 : decide (0 ≤ (ji23)) = true := decide_eq_true c24
              clear c24
              obtain ⟨ji25, hji25⟩ : ∃ j_ : Int, (shr .i64 (rd l1 (rd x5_1 (ji13))) (ji23)) = j_ := ⟨_, rfl⟩
              replace H : (if (Int.tmod (ji25) 2) = 1 then (if x5_2.length < 17592186044416 then (spec_l20Tour.l0 k2 l1 (x5_2 ++ [ji23]) (wrap64 (x6_1 - 1)) s0_0 t370) else (none)) else (spec_l20Tour.l1 k2 l1 x5_2 x6_1 (rd x5_1 (ji13)) t369 (wrap64 (x9_2 + 1)) s0_0 t370)) = some (r1, r2) := by first|(rw [hji25] at H; exact H)|(simp only [hji25] at H ⊢; exact H)
              have hji25_ : ((rd l1 (rd x5_1 (ji13))) / 2 ^ min (ji23).toNat 64) = ji25 := hji25
              have hji25z : (ji23) ≤ 64 → ((rd l1 (rd x5_1 (ji13))) / 2 ^ (ji23).toNat) = ji25 := shr_small hji25
              by_cases c26 : (Int.tmod (ji25) 2) = 1
              ·rw [if_pos c26] at H
               have c26b0 : ((Int.tmod (ji25) 2) == 1) = true := beq_iff_eq.mpr c26
               have c26b1 : ((Int.tmod (ji25) 2) != 1) = false := bne_eq_false_iff_eq.mpr c26
               clear c26
               by_cases c27 : x5_2.length < 17592186044416
               ·rw [if_pos c27] at H
                have LMc27 := Aside0.mk c27
                clear c27
                obtain ⟨y372, hy372⟩ : ∃ y_ : List Int, y_ = (x5_2 ++ [ji23]) := ⟨_, rfl⟩
                replace H : (spec_l20Tour.l0 k2 l1 y372 (wrap64 (x6_1 - 1)) s0_0 t370) = some (r1, r2) := by first|(rw [hy372]; with_reducible exact H)|(have H2_ := (Option.bind_some _ _).symm.trans H; rw [hy372]; with_reducible exact H2_)|(have H2_ := (Option.bind_some _ _).symm.trans H; with_reducible exact H2_)|with_reducible exact H|(rw [hy372]; exact H)|exact H
                have Ny372 := Aside0.mk hy372
                clear hy372
                have H' := Aside0.mk H
                clear H
                have p371 : 0 ≤ ((rd x5_1 (ji13)) : Int) := oD (by first|(with_reducible assumption)|assumption)
                have q371 : (rd x5_1 (ji13)) < (l1.length : Int) := oD (by first|(with_reducible assumption)|assumption)
                obtain ⟨ad371, e371, hx371_0⟩ := aI HR1.out (rd x5_1 (ji13)) p371 q371
                cases e371
                replace hx371_0 := keep_cell HK.out hx371_0 (by first|(rw [add_block]; exact hf1 _ rfl (by omega))|exact hf1 _ rfl (by omega)|exact hf1 ad371 rfl (by omega))
                replace p371 := eq_true p371
                replace q371 := eq_true q371
                go_wp2_with (first|((with_reducible refine gate_builtin (b:=.append) (xs:=#[.tmp 56,.tmp 58]) rfl ?_);at_builtin;refine Kd.R_append (Kd.int .i64) w.heap.size rfl (.tmp 56) (.tmp 58) 22 3 (.int .i64 0) 8 rfl Try.underlying22 info3 rfl (by decide) (by omega) u5 x5_2 ji23 [.int .i64 ji23] (fun _ => True) (fun _ => False) rfl rfl ?aP (fun _ hk => hk.elim) ?aF ?aO (Below.refl _ _) ?aS ?aL ?_;(case aP => exact rfl);(case aF => exact (fun _ _ => trivial));(case aO => exact (by (with_reducible repeat first|apply rA|apply rN|apply rD);exact HO_5.out));(case aS => exact (keep_size (w:=w) (g:=g) (row:=none) (by repeat (first|(with_reducible first|exact HK.out|apply KeepBut.set_|apply keep_drewN|apply keep_drew|apply keep_alloc)|exact HK.out))));(case aL => have:=LMc27.out;omega);intro v373 w28 ho hb hg hat;rw [← Ny372.out] at ho;have n0_:=Aside0.mk (IsS54.grown (by repeat (first|(with_reducible first|exact HI0.out|apply IsS54.alloc|apply IsS54.drewN|apply IsS54.drew|apply IsS54.set_1)|exact HI0.out)) hg (IsS54.own_ne HI0.out HO_5.out (by decide)));have n1_:=Aside0.mk (below_weaken (by repeat (first|(with_reducible first|exact HB.out|apply bA|apply bN|apply bD|refine below_set ?_ (IsS54.ge HI0.out))|exact HB.out)) HL.out hb);have n2_:=Aside0.mk (KeepBut.trans (by repeat (first|(with_reducible first|exact HK.out|apply KeepBut.set_|apply keep_drewN|apply keep_drew|apply keep_alloc)|exact HK.out)) (KeepBut.of_grown hg g) (Kd.R_base2 HO_5.out));have n3_:=Aside0.mk (ho);clear HI0;clear HB;clear HK;clear HO_5;have HI0:=n0_;have HB:=n1_;have HK:=n2_;have HO374:=n3_;clear n0_ n1_ n2_ n3_;clear ho hb hg hat))
                go_roundg k2
                case measure => have := HK1.out; have := HK2.out; omega
                case rel => exact ⟨(y372), (wrap64 (x6_1 - 1)), (t370), (by first|rfl|(simp; done)|(simp [*]; done)), H', ⟨by have := HK1.out; have := HK2.out; omega⟩, ⟨by (with_reducible repeat first|apply rA|apply rN|apply rD); exact HO374.out⟩, ⟨by repeat (first|(with_reducible first|exact HI0.out|apply IsS54.alloc|apply IsS54.drewN|apply IsS54.drew|apply IsS54.set_1)|exact HI0.out)⟩, ⟨by repeat (first|(with_reducible first|exact HK.out|apply KeepBut.set_|apply keep_drewN|apply keep_drew|apply keep_alloc)|exact HK.out)⟩, ⟨by repeat (first|(with_reducible first|exact HB.out|apply bA|apply bN|apply bD|refine below_set ?_ (IsS54.ge HI0.out))|exact HB.out)⟩⟩
               ·rw [if_neg c27] at H
                exact absurd H (by simp)
              ·rw [if_neg c26] at H
               have c26b0 : ((Int.tmod (ji25) 2) == 1) = false := beq_eq_false_iff_ne.mpr c26
               have c26b1 : ((Int.tmod (ji25) 2) != 1) = true := bne_iff_ne.mpr c26
               have H' := Aside0.mk H
               clear H
               have p371 : 0 ≤ ((rd x5_1 (ji13)) : Int) := oD (by first|(with_reducible assumption)|assumption)
               have q371 : (rd x5_1 (ji13)) < (l1.length : Int) := oD (by first|(with_reducible assumption)|assumption)
               obtain ⟨ad371, e371, hx371_0⟩ := aI HR1.out (rd x5_1 (ji13)) p371 q371
               cases e371
               replace hx371_0 := keep_cell HK.out hx371_0 (by first|(rw [add_block]; exact hf1 _ rfl (by omega))|exact hf1 _ rfl (by omega)|exact hf1 ad371 rfl (by omega))
               replace p371 := eq_true p371
               replace q371 := eq_true q371
               go_wp2
               go_roundg k2
               case measure => have := HK1.out; have := HK2.out; omega
               case rel => exact ⟨(x5_2), (wrap64 (x9_2 + 1)), (by first|rfl|(simp; done)|(simp [*]; done)), H', ⟨by have := HK1.out; have := HK2.out; omega⟩, ⟨by (with_reducible repeat first|apply rA|apply rN|apply rD); exact HO_5.out⟩, ⟨by repeat (first|(with_reducible first|exact HI0.out|apply IsS54.alloc|apply IsS54.drewN|apply IsS54.drew|apply IsS54.set_1)|exact HI0.out)⟩, ⟨by repeat (first|(with_reducible first|exact HK.out|apply KeepBut.set_|apply keep_drewN|apply keep_drew|apply keep_alloc)|exact HK.out)⟩, ⟨by repeat (first|(with_reducible first|exact HB.out|apply bA|apply bN|apply bD|refine below_set ?_ (IsS54.ge HI0.out))|exact HB.out)⟩⟩
             ·rw [if_neg c24] at H
              exact absurd H (by simp)
            ·rw [if_neg c22] at H
             exact absurd H (by simp)
           ·rw [if_neg c21] at H
            exact absurd H (by simp)
         ·rw [if_neg c19] at H
          have c19b0 : decide (x9_2 < (l1.length : Int)) = false := decide_eq_false c19
          clear c19
          have H' := Aside0.mk H
          clear H
          go_wp2
          go_roundg k2
          case measure => have := HK1.out; have := HK2.out; omega
          case rel => exact ⟨(x5_2), (wrap64 (x6_1 - 1)), (t370), (by first|rfl|(simp; done)|(simp [*]; done)), H', ⟨by have := HK1.out; have := HK2.out; omega⟩, ⟨by (with_reducible repeat first|apply rA|apply rN|apply rD); exact HO_5.out⟩, ⟨by repeat (first|(with_reducible first|exact HI0.out|apply IsS54.alloc|apply IsS54.drewN|apply IsS54.drew|apply IsS54.set_1)|exact HI0.out)⟩, ⟨by repeat (first|(with_reducible first|exact HK.out|apply KeepBut.set_|apply keep_drewN|apply keep_drew|apply keep_alloc)|exact HK.out)⟩, ⟨by repeat (first|(with_reducible first|exact HB.out|apply bA|apply bN|apply bD|refine below_set ?_ (IsS54.ge HI0.out))|exact HB.out)⟩⟩
      ·rw [if_neg c15] at H
       exact absurd H (by simp)
     ·rw [if_neg c14] at H
      exact absurd H (by simp)
    ·rw [if_neg c12] at H
     have c12b0 : decide (0 < x6_1) = false := decide_eq_false c12
     clear c12
     replace H := Option.bind_eq_some_iff.mp H
     obtain ⟨⟨t375, t376⟩, A290, H⟩ := H
     replace H : (if t375 = true then ((spec_l20Rd_pick.f k1 s0_0 t376 7).bind fun bt377 => (if x5_1.length < 17592186044416 then (some ((x5_1 ++ [bt377.1]), bt377.2)) else (none))) else (some (x5_1, t376))) = some (r1, r2) := H
     have A29 := Aside0.mk A290
     clear A290
     by_cases c30 : t375 = true
     ·subst c30
      have H1 : ((spec_l20Rd_pick.f k1 s0_0 t376 7).bind fun bt377 => (if x5_1.length < 17592186044416 then (some ((x5_1 ++ [bt377.1]), bt377.2)) else (none))) = some (r1, r2) := by rw [if_pos rfl] at H; exact H
      clear H
      have H := H1
      clear H1
      replace H := Option.bind_eq_some_iff.mp H
      obtain ⟨⟨t377, t378⟩, A310, H⟩ := H
      replace H : (if x5_1.length < 17592186044416 then (some ((x5_1 ++ [t377]), t378)) else (none)) = some (r1, r2) := H
      have A31 := Aside0.mk A310
      clear A310
      by_cases c32 : x5_1.length < 17592186044416
      ·rw [if_pos c32] at H
       have LMc32 := Aside0.mk c32
       clear c32
       obtain ⟨y379, hy379⟩ : ∃ y_ : List Int, y_ = (x5_1 ++ [t377]) := ⟨_, rfl⟩
       replace H : (some (y379, t378)) = some (r1, r2) := by first|(rw [hy379]; with_reducible exact H)|(have H2_ := (Option.bind_some _ _).symm.trans H; rw [hy379]; with_reducible exact H2_)|(have H2_ := (Option.bind_some _ _).symm.trans H; with_reducible exact H2_)|with_reducible exact H|(rw [hy379]; exact H)|exact H
       have Ny379 := Aside0.mk hy379
       clear hy379
       simp only [Option.some.injEq, Prod.mk.injEq] at H
       obtain ⟨rfl, rfl⟩ := H
       go_wp2_with (first|((with_reducible refine gate_callee (f:=35) rfl ?_);refine goesL_ (some 61) rfl rfl Try.func35 (by kernel_rfl) rfl #[.pointer (some ⟨g,0,none⟩),.int .i64 14] rfl (by (try simp only [List.map_toArray,List.map_cons,List.map_nil]);first|done|rfl|(simp only [List.length_drop,List.length_take];rfl)) ?_;(with_reducible refine (spec_l20Rd_odd.calls k1 g s0_0 x1001_1 14 true t376 w0 _ ?side1 ?side2 A29.out).mono ?_);(case side1 => repeat (first|(with_reducible first|exact HI0.out|apply IsS54.alloc|apply IsS54.drewN|apply IsS54.drew|apply IsS54.set_1)|exact HI0.out));(case side2 => repeat (first|(with_reducible first|exact HB.out|apply bA|apply bN|apply bD|refine below_set ?_ (IsS54.ge HI0.out))|exact HB.out));rintro e w33 ⟨rfl,hi,hb,hk⟩;refine ⟨_,rfl,?_⟩;have n0_:=Aside0.mk (Kd.R_mono (Kd.R_keep (IsS54.apart (show IsS54 w0 _ g s0_0 x1001_1 from by repeat (first|(with_reducible first|exact HI0.out|apply IsS54.alloc|apply IsS54.drewN|apply IsS54.drew|apply IsS54.set_1)|exact HI0.out)) (by (with_reducible repeat first|apply rA|apply rN|apply rD);exact HO_5.out) (by decide)) hk (fun _ h => h.2)) (fun _ h => h.1));have n1_:=Aside0.mk (KeepBut.trans (by repeat (first|(with_reducible first|exact HK.out|apply KeepBut.set_|apply keep_drewN|apply keep_drew|apply keep_alloc)|exact HK.out)) hk (.inl rfl));have n2_:=Aside0.mk (hb);have n3_:=Aside0.mk (hi);clear HO_5;clear HK;clear HB;clear HI0;have HO_5:=n0_;have HK:=n1_;have HB:=n2_;have HI0:=n3_;clear n0_ n1_ n2_ n3_;(try clear hb);(try clear hb2);(try clear hk);(try clear hi))|((with_reducible refine gate_callee (f:=31) rfl ?_);refine goesL_ (some 64) rfl rfl Try.func31 (by kernel_rfl) rfl #[.pointer (some ⟨g,0,none⟩),.int .i64 7] rfl (by (try simp only [List.map_toArray,List.map_cons,List.map_nil]);first|done|rfl|(simp only [List.length_drop,List.length_take];rfl)) ?_;(with_reducible refine (spec_l20Rd_pick.calls k1 g s0_0 t376 7 t377 t378 w0 _ ?side1 ?side2 A31.out).mono ?_);(case side1 => repeat (first|(with_reducible first|exact HI0.out|apply IsS54.alloc|apply IsS54.drewN|apply IsS54.drew|apply IsS54.set_1)|exact HI0.out));(case side2 => repeat (first|(with_reducible first|exact HB.out|apply bA|apply bN|apply bD|refine below_set ?_ (IsS54.ge HI0.out))|exact HB.out));rintro e w34 ⟨rfl,hi,hb,hk⟩;refine ⟨_,rfl,?_⟩;have n0_:=Aside0.mk (Kd.R_mono (Kd.R_keep (IsS54.apart (show IsS54 w0 _ g s0_0 t376 from by repeat (first|(with_reducible first|exact HI0.out|apply IsS54.alloc|apply IsS54.drewN|apply IsS54.drew|apply IsS54.set_1)|exact HI0.out)) (by (with_reducible repeat first|apply rA|apply rN|apply rD);exact HO_5.out) (by decide)) hk (fun _ h => h.2)) (fun _ h => h.1));have n1_:=Aside0.mk (KeepBut.trans (by repeat (first|(with_reducible first|exact HK.out|apply KeepBut.set_|apply keep_drewN|apply keep_drew|apply keep_alloc)|exact HK.out)) hk (.inl rfl));have n2_:=Aside0.mk (hb);have n3_:=Aside0.mk (hi);clear HO_5;clear HK;clear HB;clear HI0;have HO_5:=n0_;have HK:=n1_;have HB:=n2_;have HI0:=n3_;clear n0_ n1_ n2_ n3_;(try clear hb);(try clear hb2);(try clear hk);(try clear hi))|((with_reducible refine gate_builtin (b:=.append) (xs:=#[.tmp 62,.tmp 65]) rfl ?_);at_builtin;refine Kd.R_append (Kd.int .i64) w.heap.size rfl (.tmp 62) (.tmp 65) 22 3 (.int .i64 0) 8 rfl Try.underlying22 info3 rfl (by decide) (by omega) u5 x5_1 t377 [.int .i64 t377] (fun _ => True) (fun _ => False) rfl rfl ?aP (fun _ hk => hk.elim) ?aF ?aO (Below.refl _ _) ?aS ?aL ?_;(case aP => exact rfl);(case aF => exact (fun _ _ => trivial));(case aO => exact (by (with_reducible repeat first|apply rA|apply rN|apply rD);exact HO_5.out));(case aS => exact (keep_size (w:=w) (g:=g) (row:=none) (by repeat (first|(with_reducible first|exact HK.out|apply KeepBut.set_|apply keep_drewN|apply keep_drew|apply keep_alloc)|exact HK.out))));(case aL => have:=LMc32.out;omega);intro v380 w35 ho hb hg hat;rw [← Ny379.out] at ho;have n0_:=Aside0.mk (IsS54.grown (by repeat (first|(with_reducible first|exact HI0.out|apply IsS54.alloc|apply IsS54.drewN|apply IsS54.drew|apply IsS54.set_1)|exact HI0.out)) hg (IsS54.own_ne HI0.out HO_5.out (by decide)));have n1_:=Aside0.mk (below_weaken (by repeat (first|(with_reducible first|exact HB.out|apply bA|apply bN|apply bD|refine below_set ?_ (IsS54.ge HI0.out))|exact HB.out)) HL.out hb);have n2_:=Aside0.mk (KeepBut.trans (by repeat (first|(with_reducible first|exact HK.out|apply KeepBut.set_|apply keep_drewN|apply keep_drew|apply keep_alloc)|exact HK.out)) (KeepBut.of_grown hg g) (Kd.R_base2 HO_5.out));have n3_:=Aside0.mk (ho);clear HI0;clear HB;clear HK;clear HO_5;have HI0:=n0_;have HB:=n1_;have HK:=n2_;have HO381:=n3_;clear n0_ n1_ n2_ n3_;clear ho hb hg hat))
       go_ret
       exact ⟨_, by first|rfl|(simp [errW_none, errW_some] <;> rfl)|(simp [*, errW_none, errW_some] <;> rfl), by (with_reducible repeat first|apply rA|apply rN|apply rD); exact HO381.out, by repeat (first|(with_reducible first|exact HI0.out|apply IsS54.alloc|apply IsS54.drewN|apply IsS54.drew|apply IsS54.set_1)|exact HI0.out), by repeat (first|(with_reducible first|exact HB.out|apply bA|apply bN|apply bD|refine below_set ?_ (IsS54.ge HI0.out))|exact HB.out), by repeat (first|(with_reducible first|exact HK.out|apply KeepBut.set_|apply keep_drewN|apply keep_drew|apply keep_alloc)|exact HK.out)⟩
      ·rw [if_neg c32] at H
       exact absurd H (by simp)
     ·replace c30 := Bool.eq_false_iff.mpr c30
      subst c30
      have H1 : (some (x5_1, t376)) = some (r1, r2) := by rw [if_neg (show ¬ (false = true) by decide)] at H; exact H
      clear H
      have H := H1
      clear H1
      simp only [Option.some.injEq, Prod.mk.injEq] at H
      obtain ⟨rfl, rfl⟩ := H
      go_wp2_with (first|((with_reducible refine gate_callee (f:=35) rfl ?_);refine goesL_ (some 61) rfl rfl Try.func35 (by kernel_rfl) rfl #[.pointer (some ⟨g,0,none⟩),.int .i64 14] rfl (by (try simp only [List.map_toArray,List.map_cons,List.map_nil]);first|done|rfl|(simp only [List.length_drop,List.length_take];rfl)) ?_;(with_reducible refine (spec_l20Rd_odd.calls k1 g s0_0 x1001_1 14 false t376 w0 _ ?side1 ?side2 A29.out).mono ?_);(case side1 => repeat (first|(with_reducible first|exact HI0.out|apply IsS54.alloc|apply IsS54.drewN|apply IsS54.drew|apply IsS54.set_1)|exact HI0.out));(case side2 => repeat (first|(with_reducible first|exact HB.out|apply bA|apply bN|apply bD|refine below_set ?_ (IsS54.ge HI0.out))|exact HB.out));rintro e w36 ⟨rfl,hi,hb,hk⟩;refine ⟨_,rfl,?_⟩;have n0_:=Aside0.mk (Kd.R_mono (Kd.R_keep (IsS54.apart (show IsS54 w0 _ g s0_0 x1001_1 from by repeat (first|(with_reducible first|exact HI0.out|apply IsS54.alloc|apply IsS54.drewN|apply IsS54.drew|apply IsS54.set_1)|exact HI0.out)) (by (with_reducible repeat first|apply rA|apply rN|apply rD);exact HO_5.out) (by decide)) hk (fun _ h => h.2)) (fun _ h => h.1));have n1_:=Aside0.mk (KeepBut.trans (by repeat (first|(with_reducible first|exact HK.out|apply KeepBut.set_|apply keep_drewN|apply keep_drew|apply keep_alloc)|exact HK.out)) hk (.inl rfl));have n2_:=Aside0.mk (hb);have n3_:=Aside0.mk (hi);clear HO_5;clear HK;clear HB;clear HI0;have HO_5:=n0_;have HK:=n1_;have HB:=n2_;have HI0:=n3_;clear n0_ n1_ n2_ n3_;(try clear hb);(try clear hb2);(try clear hk);(try clear hi)))
      go_ret
      exact ⟨_, by first|rfl|(simp [errW_none, errW_some] <;> rfl)|(simp [*, errW_none, errW_some] <;> rfl), by (with_reducible repeat first|apply rA|apply rN|apply rD); exact HO_5.out, by repeat (first|(with_reducible first|exact HI0.out|apply IsS54.alloc|apply IsS54.drewN|apply IsS54.drew|apply IsS54.set_1)|exact HI0.out), by repeat (first|(with_reducible first|exact HB.out|apply bA|apply bN|apply bD|refine below_set ?_ (IsS54.ge HI0.out))|exact HB.out), by repeat (first|(with_reducible first|exact HK.out|apply KeepBut.set_|apply keep_drewN|apply keep_drew|apply keep_alloc)|exact HK.out)⟩

/-! ### spec_DrawTourOk: function 19 -/
def spec_DrawTourOk.f (k : Nat) (l0 : List Int) : Option (List Int × List Int) := (spec_l20Open.f l0).bind fun bt382 => ((spec_l20Net.f k bt382.1 bt382.2 14).bind fun bt385 => ((spec_l20Tour.f k bt382.1 bt385.2 bt385.1).bind fun bt389 => ((spec_l20Rd_odd.f k bt382.1 bt389.2 4).bind fun bt393 => (if bt393.1 = true then ((some (([0, 1, 0, 1] : List Int) : List Int)).bind fun y395 => (if bt389.1.length + y395.length < 17592186044416 then (some (bt385.1, (bt389.1 ++ y395))) else (none))) else (some (bt385.1, bt389.1))))))
theorem spec_DrawTourOk.mono : ∀ a0 k, LeO (spec_DrawTourOk.f k a0) (spec_DrawTourOk.f (k + 1) a0) := by
 intro a0 k
 unfold spec_DrawTourOk.f
 repeat' first|(with_reducible first|exact spec_l20Net.mono _ _ _ _|exact spec_l20Rd_odd.mono _ _ _ _|exact spec_l20Tour.mono _ _ _ _|exact LeO.refl _|exact LeO.none _|refine LeO.ite ?_ ?_|refine LeO.bind ?_ (fun _ => ?_))|exact spec_l20Net.mono _ _ _ _|exact spec_l20Rd_odd.mono _ _ _ _|exact spec_l20Tour.mono _ _ _ _|exact LeO.none _|refine LeO.ite ?_ ?_|refine LeO.bind ?_ (fun _ => ?_)
set_option maxHeartbeats 8000000 in
set_option maxRecDepth 100000 in
theorem spec_DrawTourOk.calls (k : Nat) (A0 : Option Addr) (c0 : Nat) (l0 : List Int) (r1 : List Int) (r2 : List Int) (w : World) (hr0 : Kd.C (Kd.int .u8) w A0 l0.length l0) (hc0 : l0.length ≤ c0) (h : spec_DrawTourOk.f k l0 = some (r1, r2)) :
  Calls Try.prog 19 #[.slice A0 l0.length c0] w fun e w' => ∃ v0_ v1_ : Value, e = .returned (.tuple #[v0_, v1_]) ∧ Kd.R (Kd.int .i64) 3 w' w.heap.size (fun k_ => some k_ ≠ (v1_ : Value).ownBlock) v0_ r1 ∧ Kd.R (Kd.int .i64) 3 w' w.heap.size (fun k_ => some k_ ≠ (v0_ : Value).ownBlock) v1_ r2 ∧ Below w.heap.size w w' := by
 have HR0 := Aside0.mk hr0
 have HC0 := Aside0.mk hc0
 clear hr0 hc0
 have HB := Aside0.mk (Below.refl w.heap.size w)
 have H : ((spec_l20Open.f l0).bind fun bt382 => ((spec_l20Net.f k bt382.1 bt382.2 14).bind fun bt385 => ((spec_l20Tour.f k bt382.1 bt385.2 bt385.1).bind fun bt389 => ((spec_l20Rd_odd.f k bt382.1 bt389.2 4).bind fun bt393 => (if bt393.1 = true then ((some (([0, 1, 0, 1] : List Int) : List Int)).bind fun y395 => (if bt389.1.length + y395.length < 17592186044416 then (some (bt385.1, (bt389.1 ++ y395))) else (none))) else (some (bt385.1, bt389.1))))))) = some (r1, r2) := h
 clear h
 replace H := Option.bind_eq_some_iff.mp H
 obtain ⟨⟨t382, t383⟩, A20, H⟩ := H
 replace H : ((spec_l20Net.f k t382 t383 14).bind fun bt385 => ((spec_l20Tour.f k t382 bt385.2 bt385.1).bind fun bt389 => ((spec_l20Rd_odd.f k t382 bt389.2 4).bind fun bt393 => (if bt393.1 = true then ((some (([0, 1, 0, 1] : List Int) : List Int)).bind fun y395 => (if bt389.1.length + y395.length < 17592186044416 then (some (bt385.1, (bt389.1 ++ y395))) else (none))) else (some (bt385.1, bt389.1)))))) = some (r1, r2) := H
 have A2 := Aside0.mk A20
 clear A20
 replace H := Option.bind_eq_some_iff.mp H
 obtain ⟨⟨t385, t388⟩, A30, H⟩ := H
 replace H : ((spec_l20Tour.f k t382 t388 t385).bind fun bt389 => ((spec_l20Rd_odd.f k t382 bt389.2 4).bind fun bt393 => (if bt393.1 = true then ((some (([0, 1, 0, 1] : List Int) : List Int)).bind fun y395 => (if bt389.1.length + y395.length < 17592186044416 then (some (t385, (bt389.1 ++ y395))) else (none))) else (some (t385, bt389.1))))) = some (r1, r2) := H
 have A3 := Aside0.mk A30
 clear A30
 replace H := Option.bind_eq_some_iff.mp H
 obtain ⟨⟨t389, t392⟩, A40, H⟩ := H
 replace H : ((spec_l20Rd_odd.f k t382 t392 4).bind fun bt393 => (if bt393.1 = true then ((some (([0, 1, 0, 1] : List Int) : List Int)).bind fun y395 => (if t389.length + y395.length < 17592186044416 then (some (t385, (t389 ++ y395))) else (none))) else (some (t385, t389)))) = some (r1, r2) := H
 have A4 := Aside0.mk A40
 clear A40
 replace H := Option.bind_eq_some_iff.mp H
 obtain ⟨⟨t393, t394⟩, A50, H⟩ := H
 replace H : (if t393 = true then ((some (([0, 1, 0, 1] : List Int) : List Int)).bind fun y395 => (if t389.length + y395.length < 17592186044416 then (some (t385, (t389 ++ y395))) else (none))) else (some (t385, t389))) = some (r1, r2) := H
 have A5 := Aside0.mk A50
 clear A50
 by_cases c6 : t393 = true
 ·subst c6
  have H1 : ((some (([0, 1, 0, 1] : List Int) : List Int)).bind fun y395 => (if t389.length + y395.length < 17592186044416 then (some (t385, (t389 ++ y395))) else (none))) = some (r1, r2) := by rw [if_pos rfl] at H; exact H
  clear H
  have H := H1
  clear H1
  obtain ⟨y395, hy395⟩ : ∃ y_ : List Int, y_ = (([0, 1, 0, 1] : List Int)) := ⟨_, rfl⟩
  replace H : (if t389.length + y395.length < 17592186044416 then (some (t385, (t389 ++ y395))) else (none)) = some (r1, r2) := by first|(rw [hy395]; with_reducible exact H)|(have H2_ := (Option.bind_some _ _).symm.trans H; rw [hy395]; with_reducible exact H2_)|(have H2_ := (Option.bind_some _ _).symm.trans H; with_reducible exact H2_)|with_reducible exact H|(rw [hy395]; exact H)|exact H
  have Ny395 := Aside0.mk hy395
  clear hy395
  by_cases c7 : t389.length + y395.length < 17592186044416
  ·rw [if_pos c7] at H
   have LMc7 := Aside0.mk c7
   clear c7
   obtain ⟨y398, hy398⟩ : ∃ y_ : List Int, y_ = (t389 ++ y395) := ⟨_, rfl⟩
   replace H : (some (t385, y398)) = some (r1, r2) := by first|(rw [hy398]; with_reducible exact H)|(have H2_ := (Option.bind_some _ _).symm.trans H; rw [hy398]; with_reducible exact H2_)|(have H2_ := (Option.bind_some _ _).symm.trans H; with_reducible exact H2_)|with_reducible exact H|(rw [hy398]; exact H)|exact H
   have Ny398 := Aside0.mk hy398
   clear hy398
   simp only [Option.some.injEq, Prod.mk.injEq] at H
   obtain ⟨rfl, rfl⟩ := H
   go_enter Try.func19, Try.ntmps19
   go_wp2_with (first|((with_reducible refine gate_callee (f:=29) rfl ?_);refine goesL_ (some 8) rfl rfl Try.func29 (by kernel_rfl) rfl #[.slice A0 l0.length c0] rfl (by (try simp only [List.map_toArray,List.map_cons,List.map_nil]);first|done|rfl|(simp only [List.length_drop,List.length_take];rfl)) ?_;(with_reducible refine (spec_l20Open.calls _ _ l0 t382 t383 w _ ?side1 ?side2 ?side3 A2.out).mono ?_);(case side1 => repeat (first|(with_reducible first|exact HB.out|apply bA|apply bN|apply bD)|exact HB.out));(case side2 => exact HR0.out);(case side3 => exact HC0.out);rintro e w8 ⟨g384,rfl,hi,hb,hb2⟩;refine ⟨_,rfl,?_⟩;have n0_:=Aside0.mk (hb);have n1_:=Aside0.mk (hi);clear HB;have HB:=n0_;have HI384:=n1_;clear n0_ n1_;(try clear hb);(try clear hb2);(try clear hk);(try clear hi))|((with_reducible refine gate_callee (f:=33) rfl ?_);refine goesL_ (some 10) rfl rfl Try.func33 (by kernel_rfl) rfl #[.pointer (some ⟨g384,0,none⟩),.int .i64 14] rfl (by (try simp only [List.map_toArray,List.map_cons,List.map_nil]);first|done|rfl|(simp only [List.length_drop,List.length_take];rfl)) ?_;(with_reducible refine (spec_l20Net.calls k g384 t382 t383 14 t385 t388 w _ ?side1 ?side2 A3.out).mono ?_);(case side1 => repeat (first|(with_reducible first|exact HI384.out|apply IsS54.alloc|apply IsS54.drewN|apply IsS54.drew|apply IsS54.set_1)|exact HI384.out));(case side2 => repeat (first|(with_reducible first|exact HB.out|apply bA|apply bN|apply bD|refine below_set ?_ (IsS54.ge HI384.out))|exact HB.out));rintro e w9 ⟨v386,rfl,ho0,hi,hb,hk⟩;refine ⟨_,rfl,?_⟩;have n0_:=Aside0.mk (Kd.R_lower ho0 (bS (by repeat (first|(with_reducible first|exact HB.out|apply bA|apply bN|apply bD|refine below_set ?_ (IsS54.ge HI384.out))|exact HB.out))));have n1_:=Aside0.mk (hb);have n2_:=Aside0.mk (hi);clear HB;clear HI384;have HO387:=n0_;have HB:=n1_;have HI384:=n2_;clear n0_ n1_ n2_;(try clear hb);(try clear hb2);(try clear hk);(try clear hi);(try clear ho0);obtain ⟨Ao10,co10,eo10⟩:=kS HO387.out;subst eo10)|((with_reducible refine gate_callee (f:=34) rfl ?_);refine goesL_ (some 13) rfl rfl Try.func34 (by kernel_rfl) rfl #[.pointer (some ⟨g384,0,none⟩),.slice Ao10 t385.length co10] rfl (by (try simp only [List.map_toArray,List.map_cons,List.map_nil]);first|done|rfl|(simp only [List.length_drop,List.length_take];rfl)) ?_;(with_reducible refine (spec_l20Tour.calls k g384 t382 t388 _ _ t385 t389 t392 w _ ?side1 ?side2 ?side3 ?side4 ?side5 A4.out).mono ?_);(case side1 => repeat (first|(with_reducible first|exact HI384.out|apply IsS54.alloc|apply IsS54.drewN|apply IsS54.drew|apply IsS54.set_1)|exact HI384.out));(case side2 => repeat (first|(with_reducible first|exact HB.out|apply bA|apply bN|apply bD|refine below_set ?_ (IsS54.ge HI384.out))|exact HB.out));(case side3 => repeat (first|exact (kR HO387.out).2.2|(with_reducible first|refine cA ?_ _|refine cN ?_ _|refine cD ?_)));(case side4 => exact (kR HO387.out).2.1);(case side5 => exact far_slice (IsS54.own_ne HI384.out HO387.out (by decide)));rintro e w11 ⟨v390,rfl,ho0,hi,hb,hk⟩;refine ⟨_,rfl,?_⟩;have n0_:=Aside0.mk (Kd.R_mono (Kd.R_told (Kd.R_oldK (IsS54.apart (show IsS54 w _ g384 t382 t388 from by repeat (first|(with_reducible first|exact HI384.out|apply IsS54.alloc|apply IsS54.drewN|apply IsS54.drew|apply IsS54.set_1)|exact HI384.out)) (by (with_reducible repeat first|apply rA|apply rN|apply rD);exact HO387.out) (by decide)) hk) (Kd.R_base ho0)) (fun _ h_ => h_.1));have n1_:=Aside0.mk (Kd.R_lower (kN ho0 (Kd.R_lt (by (with_reducible repeat first|apply rA|apply rN|apply rD);exact HO387.out))) (bS (by repeat (first|(with_reducible first|exact HB.out|apply bA|apply bN|apply bD|refine below_set ?_ (IsS54.ge HI384.out))|exact HB.out))));have n2_:=Aside0.mk (hb);have n3_:=Aside0.mk (hi);clear HO387;clear HB;clear HI384;have HO387:=n0_;have HO391:=n1_;have HB:=n2_;have HI384:=n3_;clear n0_ n1_ n2_ n3_;(try clear hb);(try clear hb2);(try clear hk);(try clear hi);(try clear ho0))|((with_reducible refine gate_callee (f:=35) rfl ?_);refine goesL_ (some 15) rfl rfl Try.func35 (by kernel_rfl) rfl #[.pointer (some ⟨g384,0,none⟩),.int .i64 4] rfl (by (try simp only [List.map_toArray,List.map_cons,List.map_nil]);first|done|rfl|(simp only [List.length_drop,List.length_take];rfl)) ?_;(with_reducible refine (spec_l20Rd_odd.calls k g384 t382 t392 4 true t394 w _ ?side1 ?side2 A5.out).mono ?_);(case side1 => repeat (first|(with_reducible first|exact HI384.out|apply IsS54.alloc|apply IsS54.drewN|apply IsS54.drew|apply IsS54.set_1)|exact HI384.out));(case side2 => repeat (first|(with_reducible first|exact HB.out|apply bA|apply bN|apply bD|refine below_set ?_ (IsS54.ge HI384.out))|exact HB.out));rintro e w12 ⟨rfl,hi,hb,hk⟩;refine ⟨_,rfl,?_⟩;have n0_:=Aside0.mk (Kd.R_mono (Kd.R_keep (IsS54.apart (show IsS54 w _ g384 t382 t392 from by repeat (first|(with_reducible first|exact HI384.out|apply IsS54.alloc|apply IsS54.drewN|apply IsS54.drew|apply IsS54.set_1)|exact HI384.out)) (by (with_reducible repeat first|apply rA|apply rN|apply rD);exact HO387.out) (by decide)) hk (fun _ h => h.2)) (fun _ h => h.1));have n1_:=Aside0.mk (Kd.R_mono (Kd.R_keep (IsS54.apart (show IsS54 w _ g384 t382 t392 from by repeat (first|(with_reducible first|exact HI384.out|apply IsS54.alloc|apply IsS54.drewN|apply IsS54.drew|apply IsS54.set_1)|exact HI384.out)) (by (with_reducible repeat first|apply rA|apply rN|apply rD);exact HO391.out) (by decide)) hk (fun _ h => h.2)) (fun _ h => h.1));have n2_:=Aside0.mk (hb);have n3_:=Aside0.mk (hi);clear HO387;clear HO391;clear HB;clear HI384;have HO387:=n0_;have HO391:=n1_;have HB:=n2_;have HI384:=n3_;clear n0_ n1_ n2_ n3_;(try clear hb);(try clear hb2);(try clear hk);(try clear hi))|((with_reducible refine gate_dst (N:=18) rfl ?_);refine Kd.R_lit (Kd.int .i64) _ 3 ?hg (N:=18) ?hd (xs:=([0,1,0,1] : List Int)) (inner:=[.int .i64 0,.int .i64 1,.int .i64 0,.int .i64 1]) (ok:=fun _ => True) (okp:=fun _ => True) ?hr ?hp (fun _ hk => hk) trivial (Below.refl _ _) (Nat.le_refl _) (by simp) ?_;(case hd => rfl);(case hg => rfl);(case hr => first|(go_simp;done)|(go_simp;rfl));(case hp => exact (Reps.one (show Kd.M (Kd.int .i64) _ _ _ 0 [.int .i64 0] from rfl) (Reps.one (show Kd.M (Kd.int .i64) _ _ _ 1 [.int .i64 1] from rfl) (Reps.one (show Kd.M (Kd.int .i64) _ _ _ 0 [.int .i64 0] from rfl) (Reps.one (show Kd.M (Kd.int .i64) _ _ _ 1 [.int .i64 1] from rfl) (Reps.none _ _))))));intro v396 w13 ho14 hb hg_ hnew_;clear hg_ hnew_;(first|rw [← Ny395.out] at ho14|(simp only [Int.reduceToNat] at ho14;rw [← Ny395.out] at ho14));have n0_:=Aside0.mk (kE (by (with_reducible repeat first|apply rA|apply rN|apply rD);exact HO387.out) (Kd.R_base ho14) hb);have n1_:=Aside0.mk (kE (by (with_reducible repeat first|apply rA|apply rN|apply rD);exact HO391.out) (Kd.R_base ho14) hb);have n2_:=Aside0.mk (Kd.R_lower (kN (kN ho14 (Kd.R_lt (by (with_reducible repeat first|apply rA|apply rN|apply rD);exact HO387.out))) (Kd.R_lt (by (with_reducible repeat first|apply rA|apply rN|apply rD);exact HO391.out))) (bS (by repeat (first|(with_reducible first|exact HB.out|apply bA|apply bN|apply bD|refine below_set ?_ (IsS54.ge HI384.out))|exact HB.out))));have n3_:=Aside0.mk (IsS54.below (by repeat (first|(with_reducible first|exact HI384.out|apply IsS54.alloc|apply IsS54.drewN|apply IsS54.drew|apply IsS54.set_1)|exact HI384.out)) hb);have n4_:=Aside0.mk (bT (by repeat (first|(with_reducible first|exact HB.out|apply bA|apply bN|apply bD|refine below_set ?_ (IsS54.ge HI384.out))|exact HB.out)) hb);clear HO387;clear HO391;clear HI384;clear HB;have HO387:=n0_;have HO391:=n1_;have HO397:=n2_;have HI384:=n3_;have HB:=n4_;clear n0_ n1_ n2_ n3_ n4_;clear hb ho14;obtain ⟨Ao16,co16,eo16⟩:=kS HO397.out;subst eo16)|((with_reducible refine gate_builtin (b:=.append) (xs:=#[.tmp 17,.tmp 18]) rfl ?_);at_builtin;refine Kd.R_append_rows (Kd.int .i64) (w0:=w) w.heap.size rfl (.tmp 17) (.tmp 18) 22 3 (.int .i64 0) 8 rfl Try.underlying22 info3 rfl (by decide) (by omega) v390 t389 y395 _ _ _ (fun k_ => some k_ ≠ (.slice Ao10 t385.length co10 : Value).ownBlock ∧ some k_ ≠ (.slice Ao16 y395.length co16 : Value).ownBlock) (fun _ => False) rfl rfl ?aO ?aR (fun _ _ h => h) (fun _ h => h.elim) ?aF ?aB ?aS ?aL ?_;(case aR => repeat (first|exact (kR HO397.out).2.2|(with_reducible first|refine cA ?_ _|refine cN ?_ _|refine cD ?_)));(case aB => exact (by repeat (first|(with_reducible first|exact HB.out|apply bA|apply bN|apply bD|refine below_set ?_ (IsS54.ge HI384.out))|exact HB.out)));(case aF => exact (fun k_ hk => ⟨Kd.fresh' (Kd.R_lt (by (with_reducible repeat first|apply rA|apply rN|apply rD);exact HO387.out)) k_ hk,Kd.fresh' (Kd.R_lt (by (with_reducible repeat first|apply rA|apply rN|apply rD);exact HO397.out)) k_ hk⟩));(case aO => exact (by (with_reducible repeat first|apply rA|apply rN|apply rD);exact Kd.R_mono HO391.out (fun _ hk => ⟨hk.1.2,hk.2⟩)));(case aS => exact (bS (by repeat (first|(with_reducible first|exact HB.out|apply bA|apply bN|apply bD|refine below_set ?_ (IsS54.ge HI384.out))|exact HB.out))));(case aL => have:=LMc7.out;omega);intro v399 w15 ho hb hg hat;rw [← Ny398.out] at ho;have n0_:=Aside0.mk (IsS54.grown (by repeat (first|(with_reducible first|exact HI384.out|apply IsS54.alloc|apply IsS54.drewN|apply IsS54.drew|apply IsS54.set_1)|exact HI384.out)) hg (IsS54.own_ne HI384.out HO391.out (by decide)));have n1_:=Aside0.mk (Kd.R_after (ok:=(fun k_ => some k_ ≠ (.slice Ao16 y395.length co16 : Value).ownBlock)) (by (with_reducible repeat first|apply rA|apply rN|apply rD);exact Kd.R_mono HO387.out (fun _ hk => ⟨hk.2,hk.1.2⟩)) hg hat);have n2_:=Aside0.mk (Kd.R_after (ok:=(fun k_ => some k_ ≠ (.slice Ao10 t385.length co10 : Value).ownBlock)) (by (with_reducible repeat first|apply rA|apply rN|apply rD);exact Kd.R_mono HO397.out (fun _ hk => ⟨hk.1.2,hk.2⟩)) hg hat);have n3_:=Aside0.mk (hb);have n4_:=Aside0.mk (ho);clear HI384;clear HO387;clear HO397;clear HB;clear HO391;have HI384:=n0_;have HO387:=n1_;have HO397:=n2_;have HB:=n3_;have HO400:=n4_;clear n0_ n1_ n2_ n3_ n4_;clear ho hb hg hat))
   go_ret2
   exact ⟨_, _, by first|rfl|(simp [errW_none, errW_some] <;> rfl)|(simp [*, errW_none, errW_some] <;> rfl), by (with_reducible repeat first|apply rA|apply rN|apply rD); exact Kd.R_mono HO387.out (fun _ hk => hk.2), by (with_reducible repeat first|apply rA|apply rN|apply rD); exact Kd.R_mono HO400.out (fun _ hk => hk.1), by repeat (first|(with_reducible first|exact HB.out|apply bA|apply bN|apply bD|refine below_set ?_ (IsS54.ge HI384.out))|exact HB.out)⟩
  ·rw [if_neg c7] at H
   exact absurd H (by simp)
 ·replace c6 := Bool.eq_false_iff.mpr c6
  subst c6
  have H1 : (some (t385, t389)) = some (r1, r2) := by rw [if_neg (show ¬ (false = true) by decide)] at H; exact H
  clear H
  have H := H1
  clear H1
  simp only [Option.some.injEq, Prod.mk.injEq] at H
  obtain ⟨rfl, rfl⟩ := H
  go_enter Try.func19, Try.ntmps19
  go_wp2_with (first|((with_reducible refine gate_callee (f:=29) rfl ?_);refine goesL_ (some 8) rfl rfl Try.func29 (by kernel_rfl) rfl #[.slice A0 l0.length c0] rfl (by (try simp only [List.map_toArray,List.map_cons,List.map_nil]);first|done|rfl|(simp only [List.length_drop,List.length_take];rfl)) ?_;(with_reducible refine (spec_l20Open.calls _ _ l0 t382 t383 w _ ?side1 ?side2 ?side3 A2.out).mono ?_);(case side1 => repeat (first|(with_reducible first|exact HB.out|apply bA|apply bN|apply bD)|exact HB.out));(case side2 => exact HR0.out);(case side3 => exact HC0.out);rintro e w17 ⟨g384,rfl,hi,hb,hb2⟩;refine ⟨_,rfl,?_⟩;have n0_:=Aside0.mk (hb);have n1_:=Aside0.mk (hi);clear HB;have HB:=n0_;have HI384:=n1_;clear n0_ n1_;(try clear hb);(try clear hb2);(try clear hk);(try clear hi))|((with_reducible refine gate_callee (f:=33) rfl ?_);refine goesL_ (some 10) rfl rfl Try.func33 (by kernel_rfl) rfl #[.pointer (some ⟨g384,0,none⟩),.int .i64 14] rfl (by (try simp only [List.map_toArray,List.map_cons,List.map_nil]);first|done|rfl|(simp only [List.length_drop,List.length_take];rfl)) ?_;(with_reducible refine (spec_l20Net.calls k g384 t382 t383 14 t385 t388 w _ ?side1 ?side2 A3.out).mono ?_);(case side1 => repeat (first|(with_reducible first|exact HI384.out|apply IsS54.alloc|apply IsS54.drewN|apply IsS54.drew|apply IsS54.set_1)|exact HI384.out));(case side2 => repeat (first|(with_reducible first|exact HB.out|apply bA|apply bN|apply bD|refine below_set ?_ (IsS54.ge HI384.out))|exact HB.out));rintro e w18 ⟨v386,rfl,ho0,hi,hb,hk⟩;refine ⟨_,rfl,?_⟩;have n0_:=Aside0.mk (Kd.R_lower ho0 (bS (by repeat (first|(with_reducible first|exact HB.out|apply bA|apply bN|apply bD|refine below_set ?_ (IsS54.ge HI384.out))|exact HB.out))));have n1_:=Aside0.mk (hb);have n2_:=Aside0.mk (hi);clear HB;clear HI384;have HO387:=n0_;have HB:=n1_;have HI384:=n2_;clear n0_ n1_ n2_;(try clear hb);(try clear hb2);(try clear hk);(try clear hi);(try clear ho0);obtain ⟨Ao19,co19,eo19⟩:=kS HO387.out;subst eo19)|((with_reducible refine gate_callee (f:=34) rfl ?_);refine goesL_ (some 13) rfl rfl Try.func34 (by kernel_rfl) rfl #[.pointer (some ⟨g384,0,none⟩),.slice Ao19 t385.length co19] rfl (by (try simp only [List.map_toArray,List.map_cons,List.map_nil]);first|done|rfl|(simp only [List.length_drop,List.length_take];rfl)) ?_;(with_reducible refine (spec_l20Tour.calls k g384 t382 t388 _ _ t385 t389 t392 w _ ?side1 ?side2 ?side3 ?side4 ?side5 A4.out).mono ?_);(case side1 => repeat (first|(with_reducible first|exact HI384.out|apply IsS54.alloc|apply IsS54.drewN|apply IsS54.drew|apply IsS54.set_1)|exact HI384.out));(case side2 => repeat (first|(with_reducible first|exact HB.out|apply bA|apply bN|apply bD|refine below_set ?_ (IsS54.ge HI384.out))|exact HB.out));(case side3 => repeat (first|exact (kR HO387.out).2.2|(with_reducible first|refine cA ?_ _|refine cN ?_ _|refine cD ?_)));(case side4 => exact (kR HO387.out).2.1);(case side5 => exact far_slice (IsS54.own_ne HI384.out HO387.out (by decide)));rintro e w20 ⟨v390,rfl,ho0,hi,hb,hk⟩;refine ⟨_,rfl,?_⟩;have n0_:=Aside0.mk (Kd.R_mono (Kd.R_told (Kd.R_oldK (IsS54.apart (show IsS54 w _ g384 t382 t388 from by repeat (first|(with_reducible first|exact HI384.out|apply IsS54.alloc|apply IsS54.drewN|apply IsS54.drew|apply IsS54.set_1)|exact HI384.out)) (by (with_reducible repeat first|apply rA|apply rN|apply rD);exact HO387.out) (by decide)) hk) (Kd.R_base ho0)) (fun _ h_ => h_.1));have n1_:=Aside0.mk (Kd.R_lower (kN ho0 (Kd.R_lt (by (with_reducible repeat first|apply rA|apply rN|apply rD);exact HO387.out))) (bS (by repeat (first|(with_reducible first|exact HB.out|apply bA|apply bN|apply bD|refine below_set ?_ (IsS54.ge HI384.out))|exact HB.out))));have n2_:=Aside0.mk (hb);have n3_:=Aside0.mk (hi);clear HO387;clear HB;clear HI384;have HO387:=n0_;have HO391:=n1_;have HB:=n2_;have HI384:=n3_;clear n0_ n1_ n2_ n3_;(try clear hb);(try clear hb2);(try clear hk);(try clear hi);(try clear ho0))|((with_reducible refine gate_callee (f:=35) rfl ?_);refine goesL_ (some 15) rfl rfl Try.func35 (by kernel_rfl) rfl #[.pointer (some ⟨g384,0,none⟩),.int .i64 4] rfl (by (try simp only [List.map_toArray,List.map_cons,List.map_nil]);first|done|rfl|(simp only [List.length_drop,List.length_take];rfl)) ?_;(with_reducible refine (spec_l20Rd_odd.calls k g384 t382 t392 4 false t394 w _ ?side1 ?side2 A5.out).mono ?_);(case side1 => repeat (first|(with_reducible first|exact HI384.out|apply IsS54.alloc|apply IsS54.drewN|apply IsS54.drew|apply IsS54.set_1)|exact HI384.out));(case side2 => repeat (first|(with_reducible first|exact HB.out|apply bA|apply bN|apply bD|refine below_set ?_ (IsS54.ge HI384.out))|exact HB.out));rintro e w21 ⟨rfl,hi,hb,hk⟩;refine ⟨_,rfl,?_⟩;have n0_:=Aside0.mk (Kd.R_mono (Kd.R_keep (IsS54.apart (show IsS54 w _ g384 t382 t392 from by repeat (first|(with_reducible first|exact HI384.out|apply IsS54.alloc|apply IsS54.drewN|apply IsS54.drew|apply IsS54.set_1)|exact HI384.out)) (by (with_reducible repeat first|apply rA|apply rN|apply rD);exact HO387.out) (by decide)) hk (fun _ h => h.2)) (fun _ h => h.1));have n1_:=Aside0.mk (Kd.R_mono (Kd.R_keep (IsS54.apart (show IsS54 w _ g384 t382 t392 from by repeat (first|(with_reducible first|exact HI384.out|apply IsS54.alloc|apply IsS54.drewN|apply IsS54.drew|apply IsS54.set_1)|exact HI384.out)) (by (with_reducible repeat first|apply rA|apply rN|apply rD);exact HO391.out) (by decide)) hk (fun _ h => h.2)) (fun _ h => h.1));have n2_:=Aside0.mk (hb);have n3_:=Aside0.mk (hi);clear HO387;clear HO391;clear HB;clear HI384;have HO387:=n0_;have HO391:=n1_;have HB:=n2_;have HI384:=n3_;clear n0_ n1_ n2_ n3_;(try clear hb);(try clear hb2);(try clear hk);(try clear hi)))
  go_ret2
  exact ⟨_, _, by first|rfl|(simp [errW_none, errW_some] <;> rfl)|(simp [*, errW_none, errW_some] <;> rfl), by (with_reducible repeat first|apply rA|apply rN|apply rD); exact Kd.R_mono HO387.out (fun _ hk => hk.2), by (with_reducible repeat first|apply rA|apply rN|apply rD); exact Kd.R_mono HO391.out (fun _ hk => hk.2), by repeat (first|(with_reducible first|exact HB.out|apply bA|apply bN|apply bD|refine below_set ?_ (IsS54.ge HI384.out))|exact HB.out)⟩

end Go.Proofs.Ytkofidpgbmajdaa.PFnBestTour
