-- Written by a program of this session (the kit's print, changed).
import Derived.Test.YtkofidpgbmajdaaSq
import Derived.Test.YtkofidpgbmajdaaPFnBestTourx0
import Derived.Test.YtkofidpgbmajdaaPFnBestTourx6
import Derived.Test.YtkofidpgbmajdaaPFnBestTourx7
namespace Go.Proofs.Ytkofidpgbmajdaa.PFnBestTour
open Go.RowKit Go.Proofs.YtkofidpgbmajdaaW.PrintWords Go.Proofs.YtkofidpgbmajdaaW.PrintLast Go.Proofs.YtkofidpgbmajdaaW.PrintMore
attribute [local go_sem] max2_int min2_int max_two min_two max_three min_three max_four min_four   -- for this text's walks alone
set_option linter.unusedVariables false
set_option linter.unusedSimpArgs false

/-! ### spec_l20Net: function 33 -/
mutual
def spec_l20Net.j0 : Nat → Int → Int → List Int → List Int → Int → Option (List Int × Int)
 | 0, _, _, _, _, _ => none
 | k + 1, x1, x5, x6, x1000, x1001 => (spec_l20Rd_pick.f k x1000 x1001 6).bind fun bt246 => (spec_l20Net.l0 k x1 x5 x6 bt246.1 x1000 bt246.2)
def spec_l20Net.l0 : Nat → Int → Int → List Int → Int → List Int → Int → Option (List Int × Int)
 | 0, _, _, _, _, _, _ => none
 | k + 1, x1, x5, x6, x7, x1000, x1001 => if x7 > 0 then ((spec_l20Rd_pick.f k x1000 x1001 x5).bind fun bt248 => ((spec_l20Rd_pick.f k x1000 bt248.2 x5).bind fun bt250 => (if bt248.1 = bt250.1 then (spec_l20Net.l0 k x1 x5 x6 (wrap64 (x7 - 1)) x1000 bt250.2) else (if 0 ≤ bt248.1 then (if bt248.1 < (x6.length : Int) then (if 0 ≤ bt250.1 then ((some (x6.set (bt248.1 : Int).toNat (Go.bits .or .i64 (rd x6 bt248.1) (shl .i64 1 bt250.1)) : List Int)).bind fun y253 => (if bt250.1 < (x6.length : Int) then (spec_l20Net.l0 k x1 x5 (y253.set (bt250.1 : Int).toNat (Go.bits .or .i64 (rd y253 bt250.1) (shl .i64 1 bt248.1))) (wrap64 (x7 - 1)) x1000 bt250.2) else (none))) else (none)) else (none)) else (none))))) else ((spec_l20Rd_odd.f k x1000 x1001 x1).bind fun bt256 => (if bt256.1 = true then ((spec_l20Rd_pick.f k x1000 bt256.2 3).bind fun bt258 => (if bt258.1 = 0 then (some ((([] : List Int)), bt258.2)) else (if bt258.1 = 1 then (if 0 < (x6.length : Int) then (some ((x6.set (0 : Int).toNat (Go.bits .or .i64 (rd x6 0) 1)), bt258.2)) else (none)) else (if 0 < (x6.length : Int) then (if 0 ≤ (wrap64 (x5 - 1)) then ((some (x6.set (0 : Int).toNat (Go.bits .xor .i64 (rd x6 0) (shl .i64 1 (wrap64 (x5 - 1)))) : List Int)).bind fun y266 => (if x5 = 1 then (some ((y266.set (0 : Int).toNat (-1)), bt258.2)) else (some (y266, bt258.2)))) else (none)) else (none))))) else (some (x6, bt256.2))))
end
def spec_l20Net.f (k : Nat) (s0_0 : List Int) (s0_1 : Int) (a1 : Int) : Option (List Int × Int) := (spec_l20Rd_pick.f k s0_0 s0_1 6).bind fun bt233 => ((spec_PathNet.f k (wrap64 (1 + bt233.1))).bind fun t235 => ((spec_l20Rd_pick.f k s0_0 bt233.2 4).bind fun bt238 => (if bt238.1 = 0 then (if (wrap64 (1 + bt233.1)) ≥ 3 then ((spec_RingNet.f k (wrap64 (1 + bt233.1))).bind fun t240 => (spec_l20Net.j0 k a1 (wrap64 (1 + bt233.1)) t240 s0_0 bt238.2)) else (spec_l20Net.j0 k a1 (wrap64 (1 + bt233.1)) t235 s0_0 bt238.2)) else (if bt238.1 = 1 then (if 0 ≤ (wrap64 (1 + bt233.1)) then (if (wrap64 (1 + bt233.1) : Int).toNat ≤ 35184372088832 then (spec_l20Net.j0 k a1 (wrap64 (1 + bt233.1)) (List.replicate (wrap64 (1 + bt233.1) : Int).toNat 0) s0_0 bt238.2) else (none)) else (none)) else (spec_l20Net.j0 k a1 (wrap64 (1 + bt233.1)) t235 s0_0 bt238.2)))))
theorem spec_l20Net.mono_l : ∀ k, (∀ y0 y1 y2 y3 y4, LeO (spec_l20Net.j0 k y0 y1 y2 y3 y4) (spec_l20Net.j0 (k + 1) y0 y1 y2 y3 y4)) ∧ (∀ y0 y1 y2 y3 y4 y5, LeO (spec_l20Net.l0 k y0 y1 y2 y3 y4 y5) (spec_l20Net.l0 (k + 1) y0 y1 y2 y3 y4 y5))
 | 0 => ⟨fun _ _ _ _ _ r h => by simp [spec_l20Net.j0] at h, fun _ _ _ _ _ _ r h => by simp [spec_l20Net.l0] at h⟩
 | k + 1 => by
  obtain ⟨ih0, ih1⟩ := spec_l20Net.mono_l k
  refine ⟨?_, ?_⟩
  ·intro y0 y1 y2 y3 y4
   unfold spec_l20Net.j0
   repeat' first|(with_reducible first|exact ih0 _ _ _ _ _|exact ih1 _ _ _ _ _ _|exact spec_PathNet.mono _ _|exact spec_RingNet.mono _ _|exact spec_l20Rd_odd.mono _ _ _ _|exact spec_l20Rd_pick.mono _ _ _ _|exact LeO.refl _|exact LeO.none _|refine LeO.ite ?_ ?_|refine LeO.bind ?_ (fun _ => ?_))|exact ih0 _ _ _ _ _|exact ih1 _ _ _ _ _ _|exact spec_PathNet.mono _ _|exact spec_RingNet.mono _ _|exact spec_l20Rd_odd.mono _ _ _ _|exact spec_l20Rd_pick.mono _ _ _ _|exact LeO.none _|refine LeO.ite ?_ ?_|refine LeO.bind ?_ (fun _ => ?_)
  ·intro y0 y1 y2 y3 y4 y5
   unfold spec_l20Net.l0
   repeat' first|(with_reducible first|exact ih0 _ _ _ _ _|exact ih1 _ _ _ _ _ _|exact spec_PathNet.mono _ _|exact spec_RingNet.mono _ _|exact spec_l20Rd_odd.mono _ _ _ _|exact spec_l20Rd_pick.mono _ _ _ _|exact LeO.refl _|exact LeO.none _|refine LeO.ite ?_ ?_|refine LeO.bind ?_ (fun _ => ?_))|exact ih0 _ _ _ _ _|exact ih1 _ _ _ _ _ _|exact spec_PathNet.mono _ _|exact spec_RingNet.mono _ _|exact spec_l20Rd_odd.mono _ _ _ _|exact spec_l20Rd_pick.mono _ _ _ _|exact LeO.none _|refine LeO.ite ?_ ?_|refine LeO.bind ?_ (fun _ => ?_)
theorem spec_l20Net.mono : ∀ a0 a1 a2 k, LeO (spec_l20Net.f k a0 a1 a2) (spec_l20Net.f (k + 1) a0 a1 a2) := by
 intro a0 a1 a2 k
 obtain ⟨ih0, ih1⟩ := spec_l20Net.mono_l k
 unfold spec_l20Net.f
 repeat' first|(with_reducible first|exact ih0 _ _ _ _ _|exact ih1 _ _ _ _ _ _|exact spec_PathNet.mono _ _|exact spec_RingNet.mono _ _|exact spec_l20Rd_odd.mono _ _ _ _|exact spec_l20Rd_pick.mono _ _ _ _|exact LeO.refl _|exact LeO.none _|refine LeO.ite ?_ ?_|refine LeO.bind ?_ (fun _ => ?_))|exact ih0 _ _ _ _ _|exact ih1 _ _ _ _ _ _|exact spec_PathNet.mono _ _|exact spec_RingNet.mono _ _|exact spec_l20Rd_odd.mono _ _ _ _|exact spec_l20Rd_pick.mono _ _ _ _|exact LeO.none _|refine LeO.ite ?_ ?_|refine LeO.bind ?_ (fun _ => ?_)
def spec_l20Net.T15 : Bool × List (List Nat × List Nat) := (true, [([], []), ([], []), ([], []), ([], []), ([2, 3], [2, 3]), ([4], [4]), ([], []), ([6], [6]), ([5, 7], [5, 7]), ([0, 1, 0, 1, 2, 3, 4, 5, 6, 7, 8], [0, 1]), ([9, 8, 0, 1, 2, 3, 4, 5, 6, 7, 8], [8, 9])])
def spec_l20Net.B15 : List Nat := [0, 0, 0, 0, 12, 28, 0, 64, 252, 511, 1023]
theorem spec_l20Net.tab15 : rtab .any (opsOf Try.f33 15) = spec_l20Net.T15 := by kernel_rfl
theorem spec_l20Net.bits15 : waitsOk spec_l20Net.T15.2 spec_l20Net.B15 = true := by kernel_rfl
def spec_l20Net.T16 : Bool × List (List Nat × List Nat) := (true, [([], []), ([], []), ([], []), ([], []), ([2, 3], [2, 3]), ([4], [4]), ([], []), ([6], [6]), ([5, 7], [5, 7]), ([0, 1, 0, 1, 2, 3, 4, 5, 6, 7, 8], [0, 1]), ([9, 8, 0, 1, 2, 3, 4, 5, 6, 7, 8], [8, 9])])
def spec_l20Net.B16 : List Nat := [0, 0, 0, 0, 12, 28, 0, 64, 252, 511, 1023]
theorem spec_l20Net.tab16 : rtab .any (opsOf Try.f33 16) = spec_l20Net.T16 := by kernel_rfl
theorem spec_l20Net.bits16 : waitsOk spec_l20Net.T16.2 spec_l20Net.B16 = true := by kernel_rfl
def spec_l20Net.T19 : Bool × List (List Nat × List Nat) := (true, [([], []), ([], []), ([1], [1]), ([2], [2]), ([], []), ([4], [4]), ([5], [5]), ([3, 6], [3, 6]), ([0, 0, 1, 2, 3, 4, 5, 6, 7], [0]), ([8, 7, 0, 1, 2, 3, 4, 5, 6, 7], [7, 8])])
def spec_l20Net.B19 : List Nat := [0, 0, 2, 6, 0, 16, 48, 126, 255, 511]
theorem spec_l20Net.tab19 : rtab .any (opsOf Try.f33 19) = spec_l20Net.T19 := by kernel_rfl
theorem spec_l20Net.bits19 : waitsOk spec_l20Net.T19.2 spec_l20Net.B19 = true := by kernel_rfl
set_option maxHeartbeats 8000000 in
set_option maxRecDepth 100000 in
theorem spec_l20Net.calls (k : Nat) (g : Nat) (s0_0 : List Int) (s0_1 : Int) (a1 : Int) (r1 : List Int) (r2 : Int) (w0 w : World) (hI : IsS54 w0 w g s0_0 s0_1) (hB : Below w0.heap.size w0 w) (h : spec_l20Net.f k s0_0 s0_1 a1 = some (r1, r2)) :
  Calls Try.prog 33 #[.pointer (some ⟨g, 0, none⟩), .int .i64 a1] w fun e w' => ∃ v0_ : Value, e = .returned (v0_) ∧ Kd.R (Kd.int .i64) 3 w' w.heap.size (fun _ => True) v0_ r1 ∧ IsS54 w0 w' g s0_0 r2 ∧ Below w0.heap.size w0 w' ∧ KeepBut w w' g none := by
 have HI0 := Aside0.mk hI
 have HK := Aside0.mk (KeepBut.refl w g none)
 have HL := Aside0.mk hB.size
 clear hI
 have HW0 := Aside0.mk hB.size
 have HB := Aside0.mk hB
 clear hB
 have H : ((spec_l20Rd_pick.f k s0_0 s0_1 6).bind fun bt233 => ((spec_PathNet.f k (wrap64 (1 + bt233.1))).bind fun t235 => ((spec_l20Rd_pick.f k s0_0 bt233.2 4).bind fun bt238 => (if bt238.1 = 0 then (if (wrap64 (1 + bt233.1)) ≥ 3 then ((spec_RingNet.f k (wrap64 (1 + bt233.1))).bind fun t240 => (spec_l20Net.j0 k a1 (wrap64 (1 + bt233.1)) t240 s0_0 bt238.2)) else (spec_l20Net.j0 k a1 (wrap64 (1 + bt233.1)) t235 s0_0 bt238.2)) else (if bt238.1 = 1 then (if 0 ≤ (wrap64 (1 + bt233.1)) then (if (wrap64 (1 + bt233.1) : Int).toNat ≤ 35184372088832 then (spec_l20Net.j0 k a1 (wrap64 (1 + bt233.1)) (List.replicate (wrap64 (1 + bt233.1) : Int).toNat 0) s0_0 bt238.2) else (none)) else (none)) else (spec_l20Net.j0 k a1 (wrap64 (1 + bt233.1)) t235 s0_0 bt238.2)))))) = some (r1, r2) := h
 clear h
 replace H := Option.bind_eq_some_iff.mp H
 obtain ⟨⟨t233, t234⟩, A30, H⟩ := H
 replace H : ((spec_PathNet.f k (wrap64 (1 + t233))).bind fun t235 => ((spec_l20Rd_pick.f k s0_0 t234 4).bind fun bt238 => (if bt238.1 = 0 then (if (wrap64 (1 + t233)) ≥ 3 then ((spec_RingNet.f k (wrap64 (1 + t233))).bind fun t240 => (spec_l20Net.j0 k a1 (wrap64 (1 + t233)) t240 s0_0 bt238.2)) else (spec_l20Net.j0 k a1 (wrap64 (1 + t233)) t235 s0_0 bt238.2)) else (if bt238.1 = 1 then (if 0 ≤ (wrap64 (1 + t233)) then (if (wrap64 (1 + t233) : Int).toNat ≤ 35184372088832 then (spec_l20Net.j0 k a1 (wrap64 (1 + t233)) (List.replicate (wrap64 (1 + t233) : Int).toNat 0) s0_0 bt238.2) else (none)) else (none)) else (spec_l20Net.j0 k a1 (wrap64 (1 + t233)) t235 s0_0 bt238.2))))) = some (r1, r2) := H
 have A3 := Aside0.mk A30
 clear A30
 replace H := Option.bind_eq_some_iff.mp H
 obtain ⟨t235, A40, H⟩ := H
 replace H : ((spec_l20Rd_pick.f k s0_0 t234 4).bind fun bt238 => (if bt238.1 = 0 then (if (wrap64 (1 + t233)) ≥ 3 then ((spec_RingNet.f k (wrap64 (1 + t233))).bind fun t240 => (spec_l20Net.j0 k a1 (wrap64 (1 + t233)) t240 s0_0 bt238.2)) else (spec_l20Net.j0 k a1 (wrap64 (1 + t233)) t235 s0_0 bt238.2)) else (if bt238.1 = 1 then (if 0 ≤ (wrap64 (1 + t233)) then (if (wrap64 (1 + t233) : Int).toNat ≤ 35184372088832 then (spec_l20Net.j0 k a1 (wrap64 (1 + t233)) (List.replicate (wrap64 (1 + t233) : Int).toNat 0) s0_0 bt238.2) else (none)) else (none)) else (spec_l20Net.j0 k a1 (wrap64 (1 + t233)) t235 s0_0 bt238.2)))) = some (r1, r2) := H
 have A4 := Aside0.mk A40
 clear A40
 replace H := Option.bind_eq_some_iff.mp H
 obtain ⟨⟨t238, t239⟩, A50, H⟩ := H
 replace H : (if t238 = 0 then (if (wrap64 (1 + t233)) ≥ 3 then ((spec_RingNet.f k (wrap64 (1 + t233))).bind fun t240 => (spec_l20Net.j0 k a1 (wrap64 (1 + t233)) t240 s0_0 t239)) else (spec_l20Net.j0 k a1 (wrap64 (1 + t233)) t235 s0_0 t239)) else (if t238 = 1 then (if 0 ≤ (wrap64 (1 + t233)) then (if (wrap64 (1 + t233) : Int).toNat ≤ 35184372088832 then (spec_l20Net.j0 k a1 (wrap64 (1 + t233)) (List.replicate (wrap64 (1 + t233) : Int).toNat 0) s0_0 t239) else (none)) else (none)) else (spec_l20Net.j0 k a1 (wrap64 (1 + t233)) t235 s0_0 t239))) = some (r1, r2) := H
 have A5 := Aside0.mk A50
 clear A50
 have HC6 := Aside0.mk H
 clear H
 go_enter Try.func33, Try.ntmps33
 go_upto_block 0 with (first|((with_reducible refine gate_callee (f := 31) rfl ?_); refine goesL_ (some 11) rfl rfl Try.func31 (by kernel_rfl) rfl #[.pointer (some ⟨g, 0, none⟩), .int .i64 6] rfl (by (try simp only [List.map_toArray, List.map_cons, List.map_nil]); first|done|rfl|(simp only [List.length_drop, List.length_take]; rfl)) ?_; (with_reducible refine (spec_l20Rd_pick.calls k g s0_0 s0_1 6 t233 t234 w0 _ ?side1 ?side2 A3.out).mono ?_); (case side1 => repeat (first|(with_reducible first|exact HI0.out|apply IsS54.alloc|apply IsS54.drewN|apply IsS54.drew|apply IsS54.set_1)|exact HI0.out)); (case side2 => repeat (first|(with_reducible first|exact HB.out|apply bA|apply bN|apply bD|refine below_set ?_ (IsS54.ge HI0.out))|exact HB.out)); rintro e w7 ⟨rfl, hi, hb, hk⟩; refine ⟨_, rfl, ?_⟩; have n0_ := Aside0.mk (KeepBut.trans (by repeat (first|(with_reducible first|exact HK.out|apply KeepBut.set_|apply keep_drewN|apply keep_drew|apply keep_alloc)|exact HK.out)) hk (.inl rfl)); have n1_ := Aside0.mk (hb); have n2_ := Aside0.mk (hi); clear HK; clear HB; clear HI0; have HK := n0_; have HB := n1_; have HI0 := n2_; clear n0_ n1_ n2_; (try clear hb); (try clear hb2); (try clear hk); (try clear hi))|((with_reducible refine gate_callee (f := 40) rfl ?_); refine goesL_ (some 14) rfl rfl Try.func40 (by kernel_rfl) rfl #[.int .i64 (wrap64 (1 + t233))] rfl (by (try simp only [List.map_toArray, List.map_cons, List.map_nil]); first|done|rfl|(simp only [List.length_drop, List.length_take]; rfl)) ?_; (with_reducible refine (spec_PathNet.calls k (wrap64 (1 + t233)) t235 _ A4.out).mono ?_); rintro e w8 ⟨v236, rfl, ho0, hb⟩; refine ⟨_, rfl, ?_⟩; have n0_ := Aside0.mk (Kd.R_lower ho0 (keep_size (w := w) (g := g) (row := none) (by repeat (first|(with_reducible first|exact HK.out|apply KeepBut.set_|apply keep_drewN|apply keep_drew|apply keep_alloc)|exact HK.out)))); have n1_ := Aside0.mk (IsS54.below (by repeat (first|(with_reducible first|exact HI0.out|apply IsS54.alloc|apply IsS54.drewN|apply IsS54.drew|apply IsS54.set_1)|exact HI0.out)) hb); have n2_ := Aside0.mk (KeepBut.trans (by repeat (first|(with_reducible first|exact HK.out|apply KeepBut.set_|apply keep_drewN|apply keep_drew|apply keep_alloc)|exact HK.out)) (KeepBut.of_below hb g none) (.inl rfl)); have n3_ := Aside0.mk (bT (by repeat (first|(with_reducible first|exact HB.out|apply bA|apply bN|apply bD|refine below_set ?_ (IsS54.ge HI0.out))|exact HB.out)) hb); clear HI0; clear HK; clear HB; have HO237 := n0_; have HI0 := n1_; have HK := n2_; have HB := n3_; clear n0_ n1_ n2_ n3_; (try clear hb); (try clear hb2); (try clear hk); (try clear hi); (try clear ho0))|((with_reducible refine gate_callee (f := 31) rfl ?_); refine goesL_ (some 16) rfl rfl Try.func31 (by kernel_rfl) rfl #[.pointer (some ⟨g, 0, none⟩), .int .i64 4] rfl (by (try simp only [List.map_toArray, List.map_cons, List.map_nil]); first|done|rfl|(simp only [List.length_drop, List.length_take]; rfl)) ?_; (with_reducible refine (spec_l20Rd_pick.calls k g s0_0 t234 4 t238 t239 w0 _ ?side1 ?side2 A5.out).mono ?_); (case side1 => repeat (first|(with_reducible first|exact HI0.out|apply IsS54.alloc|apply IsS54.drewN|apply IsS54.drew|apply IsS54.set_1)|exact HI0.out)); (case side2 => repeat (first|(with_reducible first|exact HB.out|apply bA|apply bN|apply bD|refine below_set ?_ (IsS54.ge HI0.out))|exact HB.out)); rintro e w9 ⟨rfl, hi, hb, hk⟩; refine ⟨_, rfl, ?_⟩; have n0_ := Aside0.mk (Kd.R_mono (Kd.R_keep (IsS54.apart (show IsS54 w0 _ g s0_0 t234 from by repeat (first|(with_reducible first|exact HI0.out|apply IsS54.alloc|apply IsS54.drewN|apply IsS54.drew|apply IsS54.set_1)|exact HI0.out)) (by (with_reducible repeat first|apply rA|apply rN|apply rD); exact HO237.out) (by decide)) hk (fun _ h => h.2)) (fun _ h => h.1)); have n1_ := Aside0.mk (KeepBut.trans (by repeat (first|(with_reducible first|exact HK.out|apply KeepBut.set_|apply keep_drewN|apply keep_drew|apply keep_alloc)|exact HK.out)) hk (.inl rfl)); have n2_ := Aside0.mk (hb); have n3_ := Aside0.mk (hi); clear HO237; clear HK; clear HB; clear HI0; have HO237 := n0_; have HK := n1_; have HB := n2_; have HI0 := n3_; clear n0_ n1_ n2_ n3_; (try clear hb); (try clear hb2); (try clear hk); (try clear hi)))
 (try simp only [Act.put, lA, lZ, lS])
 go_cut [6] (fun v6 wc => ∃ (kq : Nat) (x6_5 : List Int), Aside0 (spec_l20Net.j0 kq a1 (wrap64 (1 + t233)) x6_5 s0_0 t239 = some (r1, r2)) ∧ Aside0 (kq ≤ k) ∧ Aside0 (Kd.R (Kd.int .i64) 3 wc w.heap.size (fun _ => True) v6 x6_5) ∧ Aside0 (IsS54 w0 wc g s0_0 t239) ∧ Aside0 (KeepBut w wc g none) ∧ Aside0 (Below w0.heap.size w0 wc))
 case first =>
  have H := HC6.out
  clear HC6
  by_cases c10 : t238 = 0
  ·rw [if_pos c10] at H
   have c10b0 : (t238 == 0) = true := beq_iff_eq.mpr c10
   have c10b1 : (t238 != 0) = false := bne_eq_false_iff_eq.mpr c10
   clear c10
   (first|rw [c10b0]|(simp only [i64_w, i32_w]; rw [c10b0])|skip)
   by_cases c11 : (wrap64 (1 + t233)) ≥ 3
   ·rw [if_pos c11] at H
    have c11b0 : decide (3 ≤ (wrap64 (1 + t233))) = true := decide_eq_true c11
    clear c11
    replace H := Option.bind_eq_some_iff.mp H
    obtain ⟨t240, A120, H⟩ := H
    replace H : (spec_l20Net.j0 k a1 (wrap64 (1 + t233)) t240 s0_0 t239) = some (r1, r2) := H
    have A12 := Aside0.mk A120
    clear A120
    have H' := Aside0.mk H
    clear H
    go_wp2_with (first|((with_reducible refine gate_callee (f:=41) rfl ?_);refine goesL_ (some 22) rfl rfl Try.func41 (by kernel_rfl) rfl #[.int .i64 (wrap64 (1 + t233))] rfl (by (try simp only [List.map_toArray,List.map_cons,List.map_nil]);first|done|rfl|(simp only [List.length_drop,List.length_take];rfl)) ?_;(with_reducible refine (spec_RingNet.calls k (wrap64 (1 + t233)) t240 _ A12.out).mono ?_);rintro e w13 ⟨v241,rfl,ho0,hb⟩;refine ⟨_,rfl,?_⟩;have n0_:=Aside0.mk (kE (by (with_reducible repeat first|apply rA|apply rN|apply rD);exact HO237.out) (Kd.R_base ho0) hb);have n1_:=Aside0.mk (Kd.R_lower (kN ho0 (Kd.R_lt (by (with_reducible repeat first|apply rA|apply rN|apply rD);exact HO237.out))) (keep_size (w:=w) (g:=g) (row:=none) (by repeat (first|(with_reducible first|exact HK.out|apply KeepBut.set_|apply keep_drewN|apply keep_drew|apply keep_alloc)|exact HK.out))));have n2_:=Aside0.mk (IsS54.below (by repeat (first|(with_reducible first|exact HI0.out|apply IsS54.alloc|apply IsS54.drewN|apply IsS54.drew|apply IsS54.set_1)|exact HI0.out)) hb);have n3_:=Aside0.mk (KeepBut.trans (by repeat (first|(with_reducible first|exact HK.out|apply KeepBut.set_|apply keep_drewN|apply keep_drew|apply keep_alloc)|exact HK.out)) (KeepBut.of_below hb g none) (.inl rfl));have n4_:=Aside0.mk (bT (by repeat (first|(with_reducible first|exact HB.out|apply bA|apply bN|apply bD|refine below_set ?_ (IsS54.ge HI0.out))|exact HB.out)) hb);clear HO237;clear HI0;clear HK;clear HB;have HO237:=n0_;have HO242:=n1_;have HI0:=n2_;have HK:=n3_;have HB:=n4_;clear n0_ n1_ n2_ n3_ n4_;(try clear hb);(try clear hb2);(try clear hk);(try clear hi);(try clear ho0)))
    go_meet
    case rel => exact ⟨_, (t240), H', ⟨by first|omega|exact Nat.le_refl _⟩, ⟨by (with_reducible repeat first|apply rA|apply rN|apply rD); exact Kd.R_mono HO242.out (fun _ hk => trivial)⟩, ⟨by repeat (first|(with_reducible first|exact HI0.out|apply IsS54.alloc|apply IsS54.drewN|apply IsS54.drew|apply IsS54.set_1)|exact HI0.out)⟩, ⟨by repeat (first|(with_reducible first|exact HK.out|apply KeepBut.set_|apply keep_drewN|apply keep_drew|apply keep_alloc)|exact HK.out)⟩, ⟨by repeat (first|(with_reducible first|exact HB.out|apply bA|apply bN|apply bD|refine below_set ?_ (IsS54.ge HI0.out))|exact HB.out)⟩⟩
   ·rw [if_neg c11] at H
    have c11b0 : decide (3 ≤ (wrap64 (1 + t233))) = false := decide_eq_false c11
    clear c11
    have H' := Aside0.mk H
    clear H
    go_wp2
    go_meet
    case rel => exact ⟨_, (t235), H', ⟨by first|omega|exact Nat.le_refl _⟩, ⟨by (with_reducible repeat first|apply rA|apply rN|apply rD); exact HO237.out⟩, ⟨by repeat (first|(with_reducible first|exact HI0.out|apply IsS54.alloc|apply IsS54.drewN|apply IsS54.drew|apply IsS54.set_1)|exact HI0.out)⟩, ⟨by repeat (first|(with_reducible first|exact HK.out|apply KeepBut.set_|apply keep_drewN|apply keep_drew|apply keep_alloc)|exact HK.out)⟩, ⟨by repeat (first|(with_reducible first|exact HB.out|apply bA|apply bN|apply bD|refine below_set ?_ (IsS54.ge HI0.out))|exact HB.out)⟩⟩
  ·rw [if_neg c10] at H
   have c10b0 : (t238 == 0) = false := beq_eq_false_iff_ne.mpr c10
   have c10b1 : (t238 != 0) = true := bne_iff_ne.mpr c10
   (first|rw [c10b0]|(simp only [i64_w, i32_w]; rw [c10b0])|skip)
   by_cases c14 : t238 = 1
   ·rw [if_pos c14] at H
    have c14b0 : (t238 == 1) = true := beq_iff_eq.mpr c14
    have c14b1 : (t238 != 1) = false := bne_eq_false_iff_eq.mpr c14
    clear c14
    obtain ⟨ji15, hji15⟩ : ∃ j_ : Int, (wrap64 (1 + t233)) = j_ := ⟨_, rfl⟩
    replace H : (if 0 ≤ (ji15) then (if (ji15 : Int).toNat ≤ 35184372088832 then (spec_l20Net.j0 k a1 ji15 (List.replicate (ji15 : Int).toNat 0) s0_0 t239) else (none)) else (none)) = some (r1, r2) := by first|(rw [hji15] at H; exact H)|(simp only [hji15] at H ⊢; exact H)
    have hji15w : (IntKind.i64.wrap (1 + t233)) = ji15 := (i64_w _).trans hji15
    by_cases c16 : 0 ≤ (ji15)
    ·rw [if_pos c16] at H
     have c16b0 := eq_true c16
     have c16b1 : decide (0 ≤ (ji15)) = true := decide_eq_true c16
     clear c16
     by_cases c17 : (ji15 : Int).toNat ≤ 35184372088832
     ·rw [if_pos c17] at H
      have c17b0 := eq_true c17
      have c17b1 : decide ((ji15 : Int).toNat ≤ 35184372088832) = true := decide_eq_true c17
      clear c17
      obtain ⟨y243, hy243⟩ : ∃ y_ : List Int, y_ = (List.replicate (ji15 : Int).toNat 0) := ⟨_, rfl⟩
      replace H : (spec_l20Net.j0 k a1 ji15 y243 s0_0 t239) = some (r1, r2) := by first|(rw [hy243]; with_reducible exact H)|(have H2_ := (Option.bind_some _ _).symm.trans H; rw [hy243]; with_reducible exact H2_)|(have H2_ := (Option.bind_some _ _).symm.trans H; with_reducible exact H2_)|with_reducible exact H|(rw [hy243]; exact H)|exact H
      have Ny243 := Aside0.mk hy243
      clear hy243
      have H' := Aside0.mk H
      clear H
      go_wp2_with (first|((with_reducible refine gate_dst (N:=26) rfl ?_);refine Kd.R_make (Kd.int .i64) _ 3 rfl (N:=26) rfl 22 _ _ rfl ji15 (by first|exact rfl|exact congrArg (Value.int .i64) hji15) (by first|exact rfl|exact congrArg (Value.int .i64) hji15) Try.underlying22 (.int .i64 0) 8 info3 rfl (by decide) (by omega) 0 (ok:=fun _ => True) (okp:=fun _ => True) rfl (fun _ hk => hk) trivial (oD (by first|(with_reducible assumption)|assumption)) (Nat.le_trans (Nat.mul_le_mul_right _ (oD (by first|(with_reducible assumption)|assumption) : ji15.toNat ≤ 35184372088832)) (by omega)) (Below.refl _ _) (Nat.le_refl _) ?_;intro v244 w18 ho19 hb hg_ hnew_;clear hg_ hnew_;(first|rw [← Ny243.out] at ho19|(simp only [Int.reduceToNat] at ho19;rw [← Ny243.out] at ho19));have n0_:=Aside0.mk (kE (by (with_reducible repeat first|apply rA|apply rN|apply rD);exact HO237.out) (Kd.R_base ho19) hb);have n1_:=Aside0.mk (Kd.R_lower (kN ho19 (Kd.R_lt (by (with_reducible repeat first|apply rA|apply rN|apply rD);exact HO237.out))) (keep_size (w:=w) (g:=g) (row:=none) (by repeat (first|(with_reducible first|exact HK.out|apply KeepBut.set_|apply keep_drewN|apply keep_drew|apply keep_alloc)|exact HK.out))));have n2_:=Aside0.mk (IsS54.below (by repeat (first|(with_reducible first|exact HI0.out|apply IsS54.alloc|apply IsS54.drewN|apply IsS54.drew|apply IsS54.set_1)|exact HI0.out)) hb);have n3_:=Aside0.mk (KeepBut.trans (by repeat (first|(with_reducible first|exact HK.out|apply KeepBut.set_|apply keep_drewN|apply keep_drew|apply keep_alloc)|exact HK.out)) (KeepBut.of_below hb g none) (.inl rfl));have n4_:=Aside0.mk (bT (by repeat (first|(with_reducible first|exact HB.out|apply bA|apply bN|apply bD|refine below_set ?_ (IsS54.ge HI0.out))|exact HB.out)) hb);clear HO237;clear HI0;clear HK;clear HB;have HO237:=n0_;have HO245:=n1_;have HI0:=n2_;have HK:=n3_;have HB:=n4_;clear n0_ n1_ n2_ n3_ n4_;clear hb ho19))
      (try rw [← hji15] at H')
      (try rw [← hji15])
      go_meet
      case rel => exact ⟨_, (y243), H', ⟨by first|omega|exact Nat.le_refl _⟩, ⟨by (with_reducible repeat first|apply rA|apply rN|apply rD); exact Kd.R_mono HO245.out (fun _ hk => trivial)⟩, ⟨by repeat (first|(with_reducible first|exact HI0.out|apply IsS54.alloc|apply IsS54.drewN|apply IsS54.drew|apply IsS54.set_1)|exact HI0.out)⟩, ⟨by repeat (first|(with_reducible first|exact HK.out|apply KeepBut.set_|apply keep_drewN|apply keep_drew|apply keep_alloc)|exact HK.out)⟩, ⟨by repeat (first|(with_reducible first|exact HB.out|apply bA|apply bN|apply bD|refine below_set ?_ (IsS54.ge HI0.out))|exact HB.out)⟩⟩
     ·rw [if_neg c17] at H
      exact absurd H (by simp)
    ·rw [if_neg c16] at H
     exact absurd H (by simp)
   ·rw [if_neg c14] at H
    have c14b0 : (t238 == 1) = false := beq_eq_false_iff_ne.mpr c14
    have c14b1 : (t238 != 1) = true := bne_iff_ne.mpr c14
    have H' := Aside0.mk H
    clear H
    go_wp2
    go_meet
    case rel => exact ⟨_, (t235), H', ⟨by first|omega|exact Nat.le_refl _⟩, ⟨by (with_reducible repeat first|apply rA|apply rN|apply rD); exact HO237.out⟩, ⟨by repeat (first|(with_reducible first|exact HI0.out|apply IsS54.alloc|apply IsS54.drewN|apply IsS54.drew|apply IsS54.set_1)|exact HI0.out)⟩, ⟨by repeat (first|(with_reducible first|exact HK.out|apply KeepBut.set_|apply keep_drewN|apply keep_drew|apply keep_alloc)|exact HK.out)⟩, ⟨by repeat (first|(with_reducible first|exact HB.out|apply bA|apply bN|apply bD|refine below_set ?_ (IsS54.ge HI0.out))|exact HB.out)⟩⟩
 case rest =>
  clear HC6
  try clear c1
  try clear p2
  try clear c3
  try clear c4
  try clear p6
  try clear c10
  try clear c10b0
  try clear c10b1
  try clear c11
  try clear c11b0
  try clear c14
  try clear c14b0
  try clear c14b1
  try clear c16
  try clear c16b0
  try clear c16b1
  try clear c17
  try clear c17b0
  try clear c17b1
  obtain ⟨kq, x6_5, HA, HJ5, HO_6, HI0, HK, HB⟩ := hcut
  cases kq with
  | zero => exact absurd HA.out (by simp [spec_l20Net.j0])
  | succ kj5 =>
   have H := HA.out
   clear HA
   simp only [spec_l20Net.j0] at H
   replace H := Option.bind_eq_some_iff.mp H
   obtain ⟨⟨t246, t247⟩, A200, H⟩ := H
   replace H : (spec_l20Net.l0 kj5 a1 (wrap64 (1 + t233)) x6_5 t246 s0_0 t247) = some (r1, r2) := H
   have A20 := Aside0.mk A200
   clear A200
   have H' := Aside0.mk H
   clear H
   go_wp2_with (first|((with_reducible refine gate_callee (f:=31) rfl ?_);refine goesL_ (some 28) rfl rfl Try.func31 (by kernel_rfl) rfl #[.pointer (some ⟨g,0,none⟩),.int .i64 6] rfl (by (try simp only [List.map_toArray,List.map_cons,List.map_nil]);first|done|rfl|(simp only [List.length_drop,List.length_take];rfl)) ?_;(with_reducible refine (spec_l20Rd_pick.calls kj5 g s0_0 t239 6 t246 t247 w0 _ ?side1 ?side2 A20.out).mono ?_);(case side1 => repeat (first|(with_reducible first|exact HI0.out|apply IsS54.alloc|apply IsS54.drewN|apply IsS54.drew|apply IsS54.set_1)|exact HI0.out));(case side2 => repeat (first|(with_reducible first|exact HB.out|apply bA|apply bN|apply bD|refine below_set ?_ (IsS54.ge HI0.out))|exact HB.out));rintro e w21 ⟨rfl,hi,hb,hk⟩;refine ⟨_,rfl,?_⟩;have n0_:=Aside0.mk (Kd.R_mono (Kd.R_keep (IsS54.apart (show IsS54 w0 _ g s0_0 t239 from by repeat (first|(with_reducible first|exact HI0.out|apply IsS54.alloc|apply IsS54.drewN|apply IsS54.drew|apply IsS54.set_1)|exact HI0.out)) (by (with_reducible repeat first|apply rA|apply rN|apply rD);exact HO_6.out) (by decide)) hk (fun _ h => h.2)) (fun _ h => h.1));have n1_:=Aside0.mk (KeepBut.trans (by repeat (first|(with_reducible first|exact HK.out|apply KeepBut.set_|apply keep_drewN|apply keep_drew|apply keep_alloc)|exact HK.out)) hk (.inl rfl));have n2_:=Aside0.mk (hb);have n3_:=Aside0.mk (hi);clear HO_6;clear HK;clear HB;clear HI0;have HO_6:=n0_;have HK:=n1_;have HB:=n2_;have HI0:=n3_;clear n0_ n1_ n2_ n3_;(try clear hb);(try clear hb2);(try clear hk);(try clear hi)))
   go_loopg [7] kj5 (fun kq v7 w' => ∃ (x6_2 : List Int) (x7_2 : Int) (x1001_2 : Int), v7 = .int .i64 x7_2 ∧ Aside0 (spec_l20Net.l0 kq a1 (wrap64 (1 + t233)) x6_2 x7_2 s0_0 x1001_2 = some (r1, r2)) ∧ Aside0 (kq ≤ kj5) ∧ Aside0 (Kd.R (Kd.int .i64) 3 w' w.heap.size (fun _ => True) u6 x6_2) ∧ Aside0 (IsS54 w0 w' g s0_0 x1001_2) ∧ Aside0 (KeepBut w w' g none) ∧ Aside0 (Below w0.heap.size w0 w'))
   case atStart => exact ⟨(x6_5), (t246), (t247), (by first|rfl|(simp; done)|(simp [*]; done)), H', ⟨Nat.le_refl _⟩, ⟨by (with_reducible repeat first|apply rA|apply rN|apply rD); exact HO_6.out⟩, ⟨by repeat (first|(with_reducible first|exact HI0.out|apply IsS54.alloc|apply IsS54.drewN|apply IsS54.drew|apply IsS54.set_1)|exact HI0.out)⟩, ⟨by repeat (first|(with_reducible first|exact HK.out|apply KeepBut.set_|apply keep_drewN|apply keep_drew|apply keep_alloc)|exact HK.out)⟩, ⟨by repeat (first|(with_reducible first|exact HB.out|apply bA|apply bN|apply bD|refine below_set ?_ (IsS54.ge HI0.out))|exact HB.out)⟩⟩
   case round =>
    clear H'
    try clear c1
    try clear p2
    try clear c3
    try clear c4
    try clear p6
    try clear c10
    try clear c10b0
    try clear c10b1
    try clear c11
    try clear c11b0
    try clear c14
    try clear c14b0
    try clear c14b1
    try clear c16
    try clear c16b0
    try clear c16b1
    try clear c17
    try clear c17b0
    try clear c17b1
    try clear p2
    try clear p6
    obtain ⟨x6_2, x7_2, x1001_2, rfl, HA, HK2, HO_6, HI0, HK, HB⟩ := hrel
    cases gk with
    | zero => exact absurd HA.out (by simp [spec_l20Net.l0])
    | succ k2 =>
     have H := HA.out
     clear HA
     simp only [spec_l20Net.l0] at H
     by_cases c22 : x7_2 > 0
     ·rw [if_pos c22] at H
      have c22b0 : decide (0 < x7_2) = true := decide_eq_true c22
      clear c22
      replace H := Option.bind_eq_some_iff.mp H
      obtain ⟨⟨t248, t249⟩, A230, H⟩ := H
      replace H : ((spec_l20Rd_pick.f k2 s0_0 t249 (wrap64 (1 + t233))).bind fun bt250 => (if t248 = bt250.1 then (spec_l20Net.l0 k2 a1 (wrap64 (1 + t233)) x6_2 (wrap64 (x7_2 - 1)) s0_0 bt250.2) else (if 0 ≤ t248 then (if t248 < (x6_2.length : Int) then (if 0 ≤ bt250.1 then ((some (x6_2.set (t248 : Int).toNat (Go.bits .or .i64 (rd x6_2 t248) (shl .i64 1 bt250.1)) : List Int)).bind fun y253 => (if bt250.1 < (x6_2.length : Int) then (spec_l20Net.l0 k2 a1 (wrap64 (1 + t233)) (y253.set (bt250.1 : Int).toNat (Go.bits .or .i64 (rd y253 bt250.1) (shl .i64 1 t248))) (wrap64 (x7_2 - 1)) s0_0 bt250.2) else (none))) else (none)) else (none)) else (none)))) = some (r1, r2) := H
      have A23 := Aside0.mk A230
      clear A230
      replace H := Option.bind_eq_some_iff.mp H
      obtain ⟨⟨t250, t251⟩, A240, H⟩ := H
      replace H : (if t248 = t250 then (spec_l20Net.l0 k2 a1 (wrap64 (1 + t233)) x6_2 (wrap64 (x7_2 - 1)) s0_0 t251) else (if 0 ≤ t248 then (if t248 < (x6_2.length : Int) then (if 0 ≤ t250 then ((some (x6_2.set (t248 : Int).toNat (Go.bits .or .i64 (rd x6_2 t248) (shl .i64 1 t250)) : List Int)).bind fun y253 => (if t250 < (x6_2.length : Int) then (spec_l20Net.l0 k2 a1 (wrap64 (1 + t233)) (y253.set (t250 : Int).toNat (Go.bits .or .i64 (rd y253 t250) (shl .i64 1 t248))) (wrap64 (x7_2 - 1)) s0_0 t251) else (none))) else (none)) else (none)) else (none))) = some (r1, r2) := H
      have A24 := Aside0.mk A240
      clear A240
      by_cases c25 : t248 = t250
      ·rw [if_pos c25] at H
       have c25b0 : (t248 == t250) = true := beq_iff_eq.mpr c25
       have c25b1 : (t248 != t250) = false := bne_eq_false_iff_eq.mpr c25
       clear c25
       have H' := Aside0.mk H
       clear H
       go_wp2_with (first|((with_reducible refine gate_callee (f:=31) rfl ?_);refine goesL_ (some 35) rfl rfl Try.func31 (by kernel_rfl) rfl #[.pointer (some ⟨g,0,none⟩),.int .i64 (wrap64 (1 + t233))] rfl (by (try simp only [List.map_toArray,List.map_cons,List.map_nil]);first|done|rfl|(simp only [List.length_drop,List.length_take];rfl)) ?_;(with_reducible refine (spec_l20Rd_pick.calls k2 g s0_0 x1001_2 (wrap64 (1 + t233)) t248 t249 w0 _ ?side1 ?side2 A23.out).mono ?_);(case side1 => repeat (first|(with_reducible first|exact HI0.out|apply IsS54.alloc|apply IsS54.drewN|apply IsS54.drew|apply IsS54.set_1)|exact HI0.out));(case side2 => repeat (first|(with_reducible first|exact HB.out|apply bA|apply bN|apply bD|refine below_set ?_ (IsS54.ge HI0.out))|exact HB.out));rintro e w26 ⟨rfl,hi,hb,hk⟩;refine ⟨_,rfl,?_⟩;have n0_:=Aside0.mk (Kd.R_mono (Kd.R_keep (IsS54.apart (show IsS54 w0 _ g s0_0 x1001_2 from by repeat (first|(with_reducible first|exact HI0.out|apply IsS54.alloc|apply IsS54.drewN|apply IsS54.drew|apply IsS54.set_1)|exact HI0.out)) (by (with_reducible repeat first|apply rA|apply rN|apply rD);exact HO_6.out) (by decide)) hk (fun _ h => h.2)) (fun _ h => h.1));have n1_:=Aside0.mk (KeepBut.trans (by repeat (first|(with_reducible first|exact HK.out|apply KeepBut.set_|apply keep_drewN|apply keep_drew|apply keep_alloc)|exact HK.out)) hk (.inl rfl));have n2_:=Aside0.mk (hb);have n3_:=Aside0.mk (hi);clear HO_6;clear HK;clear HB;clear HI0;have HO_6:=n0_;have HK:=n1_;have HB:=n2_;have HI0:=n3_;clear n0_ n1_ n2_ n3_;(try clear hb);(try clear hb2);(try clear hk);(try clear hi))|((with_reducible refine gate_callee (f:=31) rfl ?_);refine goesL_ (some 38) rfl rfl Try.func31 (by kernel_rfl) rfl #[.pointer (some ⟨g,0,none⟩),.int .i64 (wrap64 (1 + t233))] rfl (by (try simp only [List.map_toArray,List.map_cons,List.map_nil]);first|done|rfl|(simp only [List.length_drop,List.length_take];rfl)) ?_;(with_reducible refine (spec_l20Rd_pick.calls k2 g s0_0 t249 (wrap64 (1 + t233)) t250 t251 w0 _ ?side1 ?side2 A24.out).mono ?_);(case side1 => repeat (first|(with_reducible first|exact HI0.out|apply IsS54.alloc|apply IsS54.drewN|apply IsS54.drew|apply IsS54.set_1)|exact HI0.out));(case side2 => repeat (first|(with_reducible first|exact HB.out|apply bA|apply bN|apply bD|refine below_set ?_ (IsS54.ge HI0.out))|exact HB.out));rintro e w27 ⟨rfl,hi,hb,hk⟩;refine ⟨_,rfl,?_⟩;have n0_:=Aside0.mk (Kd.R_mono (Kd.R_keep (IsS54.apart (show IsS54 w0 _ g s0_0 t249 from by repeat (first|(with_reducible first|exact HI0.out|apply IsS54.alloc|apply IsS54.drewN|apply IsS54.drew|apply IsS54.set_1)|exact HI0.out)) (by (with_reducible repeat first|apply rA|apply rN|apply rD);exact HO_6.out) (by decide)) hk (fun _ h => h.2)) (fun _ h => h.1));have n1_:=Aside0.mk (KeepBut.trans (by repeat (first|(with_reducible first|exact HK.out|apply KeepBut.set_|apply keep_drewN|apply keep_drew|apply keep_alloc)|exact HK.out)) hk (.inl rfl));have n2_:=Aside0.mk (hb);have n3_:=Aside0.mk (hi);clear HO_6;clear HK;clear HB;clear HI0;have HO_6:=n0_;have HK:=n1_;have HB:=n2_;have HI0:=n3_;clear n0_ n1_ n2_ n3_;(try clear hb);(try clear hb2);(try clear hk);(try clear hi)))
       go_roundg k2
       case measure => have := HJ5.out; have := HK2.out; omega
       case rel => exact ⟨(x6_2), (wrap64 (x7_2 - 1)), (t251), (by first|rfl|(simp; done)|(simp [*]; done)), H', ⟨by have := HJ5.out; have := HK2.out; omega⟩, ⟨by (with_reducible repeat first|apply rA|apply rN|apply rD); exact HO_6.out⟩, ⟨by repeat (first|(with_reducible first|exact HI0.out|apply IsS54.alloc|apply IsS54.drewN|apply IsS54.drew|apply IsS54.set_1)|exact HI0.out)⟩, ⟨by repeat (first|(with_reducible first|exact HK.out|apply KeepBut.set_|apply keep_drewN|apply keep_drew|apply keep_alloc)|exact HK.out)⟩, ⟨by repeat (first|(with_reducible first|exact HB.out|apply bA|apply bN|apply bD|refine below_set ?_ (IsS54.ge HI0.out))|exact HB.out)⟩⟩
      ·rw [if_neg c25] at H
       have c25b0 : (t248 == t250) = false := beq_eq_false_iff_ne.mpr c25
       have c25b1 : (t248 != t250) = true := bne_iff_ne.mpr c25
       by_cases c28 : 0 ≤ t248
       ·rw [if_pos c28] at H
        have c28b0 : decide (0 ≤ t248) = true := decide_eq_true c28
        clear c28
        by_cases c29 : t248 < (x6_2.length : Int)
        ·rw [if_pos c29] at H
         have c29b0 : decide (t248 < (x6_2.length : Int)) = true := decide_eq_true c29
         clear c29
         by_cases c30 : 0 ≤ t250
         ·rw [if_pos c30] at H
          have c30b0 := eq_true c30
          have c30b1 : decide (0 ≤ t250) = true := decide_eq_true c30
          clear c30
          obtain ⟨ji31, hji31⟩ : ∃ j_ : Int, (shl .i64 1 t250) = j_ := ⟨_, rfl⟩
          replace H : ((some (x6_2.set (t248 : Int).toNat (Go.bits .or .i64 (rd x6_2 t248) (ji31)) : List Int)).bind fun y253 => (if t250 < (x6_2.length : Int) then (spec_l20Net.l0 k2 a1 (wrap64 (1 + t233)) (y253.set (t250 : Int).toNat (Go.bits .or .i64 (rd y253 t250) (shl .i64 1 t248))) (wrap64 (x7_2 - 1)) s0_0 t251) else (none))) = some (r1, r2) := by first|(rw [hji31] at H; exact H)|(simp only [hji31] at H ⊢; exact H)
          (try rw [hji31] at A23)
          (try rw [hji31] at A24)
          have hji31_ : (IntKind.i64.wrap (1 * 2 ^ min t250.toNat 64)) = ji31 := hji31
          have hji31z : t250 ≤ 64 → (IntKind.i64.wrap (1 * 2 ^ t250.toNat)) = ji31 := shl_small hji31
          have hji31u : (IntKind.i64.wrap (2 ^ min t250.toNat 64)) = ji31 := by have h_ := hji31_; rw [Int.one_mul] at h_; exact h_
          have hji31v : t250 ≤ 64 → (IntKind.i64.wrap (2 ^ t250.toNat)) = ji31 := fun hle_ => by have h_ := hji31z hle_; rw [Int.one_mul] at h_; exact h_
          have hji31y : (wrap64 (1 * 2 ^ min t250.toNat 64)) = ji31 := (i64_w _).symm.trans hji31_
          have hji31x : t250 ≤ 64 → (wrap64 (1 * 2 ^ t250.toNat)) = ji31 := fun h_ => (i64_w _).symm.trans (hji31z h_)
          obtain ⟨y253, hy253⟩ : ∃ y_ : List Int, y_ = (x6_2.set (t248 : Int).toNat (Go.bits .or .i64 (rd x6_2 t248) (ji31))) := ⟨_, rfl⟩
          replace H : (if t250 < (x6_2.length : Int) then (spec_l20Net.l0 k2 a1 (wrap64 (1 + t233)) (y253.set (t250 : Int).toNat (Go.bits .or .i64 (rd y253 t250) (shl .i64 1 t248))) (wrap64 (x7_2 - 1)) s0_0 t251) else (none)) = some (r1, r2) := by first|(rw [hy253]; with_reducible exact H)|(have H2_ := (Option.bind_some _ _).symm.trans H; rw [hy253]; with_reducible exact H2_)|(have H2_ := (Option.bind_some _ _).symm.trans H; with_reducible exact H2_)|with_reducible exact H|(rw [hy253]; exact H)|exact H
          have Ny253 := Aside0.mk hy253
          clear hy253
          by_cases c33 : t250 < (x6_2.length : Int)
          ·rw [if_pos c33] at H
           have c33b0 : decide (t250 < (x6_2.length : Int)) = true := decide_eq_true c33
           clear c33
           have c34b0 := eq_true (oD (by first|(with_reducible assumption)|assumption) : 0 ≤ t248)
           obtain ⟨ji35, hji35⟩ : ∃ j_ : Int, (shl .i64 1 t248) = j_ := ⟨_, rfl⟩
           replace H : (spec_l20Net.l0 k2 a1 (wrap64 (1 + t233)) (y253.set (t250 : Int).toNat (Go.bits .or .i64 (rd y253 t250) (ji35))) (wrap64 (x7_2 - 1)) s0_0 t251) = some (r1, r2) := by first|(rw [hji35] at H; exact H)|(simp only [hji35] at H ⊢; exact H)
           (try rw [hji35] at A23)
           (try rw [hji35] at A24)
           have hji35_ : (IntKind.i64.wrap (1 * 2 ^ min t248.toNat 64)) = ji35 := hji35
           have hji35z : t248 ≤ 64 → (IntKind.i64.wrap (1 * 2 ^ t248.toNat)) = ji35 := shl_small hji35
           have hji35u : (IntKind.i64.wrap (2 ^ min t248.toNat 64)) = ji35 := by have h_ := hji35_; rw [Int.one_mul] at h_; exact h_
           have hji35v : t248 ≤ 64 → (IntKind.i64.wrap (2 ^ t248.toNat)) = ji35 := fun hle_ => by have h_ := hji35z hle_; rw [Int.one_mul] at h_; exact h_
           have hji35y : (wrap64 (1 * 2 ^ min t248.toNat 64)) = ji35 := (i64_w _).symm.trans hji35_
           have hji35x : t248 ≤ 64 → (wrap64 (1 * 2 ^ t248.toNat)) = ji35 := fun h_ => (i64_w _).symm.trans (hji35z h_)
           obtain ⟨y255, hy255⟩ : ∃ y_ : List Int, y_ = (y253.set (t250 : Int).toNat (Go.bits .or .i64 (rd y253 t250) (ji35))) := ⟨_, rfl⟩
           replace H : (spec_l20Net.l0 k2 a1 (wrap64 (1 + t233)) y255 (wrap64 (x7_2 - 1)) s0_0 t251) = some (r1, r2) := by first|(rw [hy255]; with_reducible exact H)|(have H2_ := (Option.bind_some _ _).symm.trans H; rw [hy255]; with_reducible exact H2_)|(have H2_ := (Option.bind_some _ _).symm.trans H; with_reducible exact H2_)|with_reducible exact H|(rw [hy255]; exact H)|exact H
           have Ny255 := Aside0.mk hy255
           clear hy255
           have H' := Aside0.mk H
           clear H
           try go_wp2_with (first|((with_reducible refine gate_callee (f:=31) rfl ?_);refine goesL_ (some 35) rfl rfl Try.func31 (by kernel_rfl) rfl #[.pointer (some ⟨g,0,none⟩),.int .i64 (wrap64 (1 + t233))] rfl (by (try simp only [List.map_toArray,List.map_cons,List.map_nil]);first|done|rfl|(simp only [List.length_drop,List.length_take];rfl)) ?_;(with_reducible refine (spec_l20Rd_pick.calls k2 g s0_0 x1001_2 (wrap64 (1 + t233)) t248 t249 w0 _ ?side1 ?side2 A23.out).mono ?_);(case side1 => repeat (first|(with_reducible first|exact HI0.out|apply IsS54.alloc|apply IsS54.drewN|apply IsS54.drew|apply IsS54.set_1)|exact HI0.out));(case side2 => repeat (first|(with_reducible first|exact HB.out|apply bA|apply bN|apply bD|refine below_set ?_ (IsS54.ge HI0.out))|exact HB.out));rintro e w37 ⟨rfl,hi,hb,hk⟩;refine ⟨_,rfl,?_⟩;have n0_:=Aside0.mk (Kd.R_mono (Kd.R_keep (IsS54.apart (show IsS54 w0 _ g s0_0 x1001_2 from by repeat (first|(with_reducible first|exact HI0.out|apply IsS54.alloc|apply IsS54.drewN|apply IsS54.drew|apply IsS54.set_1)|exact HI0.out)) (by (with_reducible repeat first|apply rA|apply rN|apply rD);exact HO_6.out) (by decide)) hk (fun _ h => h.2)) (fun _ h => h.1));have n1_:=Aside0.mk (KeepBut.trans (by repeat (first|(with_reducible first|exact HK.out|apply KeepBut.set_|apply keep_drewN|apply keep_drew|apply keep_alloc)|exact HK.out)) hk (.inl rfl));have n2_:=Aside0.mk (hb);have n3_:=Aside0.mk (hi);clear HO_6;clear HK;clear HB;clear HI0;have HO_6:=n0_;have HK:=n1_;have HB:=n2_;have HI0:=n3_;clear n0_ n1_ n2_ n3_;(try clear hb);(try clear hb2);(try clear hk);(try clear hi))|((with_reducible refine gate_callee (f:=31) rfl ?_);refine goesL_ (some 38) rfl rfl Try.func31 (by kernel_rfl) rfl #[.pointer (some ⟨g,0,none⟩),.int .i64 (wrap64 (1 + t233))] rfl (by (try simp only [List.map_toArray,List.map_cons,List.map_nil]);first|done|rfl|(simp only [List.length_drop,List.length_take];rfl)) ?_;(with_reducible refine (spec_l20Rd_pick.calls k2 g s0_0 t249 (wrap64 (1 + t233)) t250 t251 w0 _ ?side1 ?side2 A24.out).mono ?_);(case side1 => repeat (first|(with_reducible first|exact HI0.out|apply IsS54.alloc|apply IsS54.drewN|apply IsS54.drew|apply IsS54.set_1)|exact HI0.out));(case side2 => repeat (first|(with_reducible first|exact HB.out|apply bA|apply bN|apply bD|refine below_set ?_ (IsS54.ge HI0.out))|exact HB.out));rintro e w38 ⟨rfl,hi,hb,hk⟩;refine ⟨_,rfl,?_⟩;have n0_:=Aside0.mk (Kd.R_mono (Kd.R_keep (IsS54.apart (show IsS54 w0 _ g s0_0 t249 from by repeat (first|(with_reducible first|exact HI0.out|apply IsS54.alloc|apply IsS54.drewN|apply IsS54.drew|apply IsS54.set_1)|exact HI0.out)) (by (with_reducible repeat first|apply rA|apply rN|apply rD);exact HO_6.out) (by decide)) hk (fun _ h => h.2)) (fun _ h => h.1));have n1_:=Aside0.mk (KeepBut.trans (by repeat (first|(with_reducible first|exact HK.out|apply KeepBut.set_|apply keep_drewN|apply keep_drew|apply keep_alloc)|exact HK.out)) hk (.inl rfl));have n2_:=Aside0.mk (hb);have n3_:=Aside0.mk (hi);clear HO_6;clear HK;clear HB;clear HI0;have HO_6:=n0_;have HK:=n1_;have HB:=n2_;have HI0:=n3_;clear n0_ n1_ n2_ n3_;(try clear hb);(try clear hb2);(try clear hk);(try clear hi)))
           have n0_ := Aside0.mk (Kd.R_drew HO_6.out)
           have n1_ := Aside0.mk (IsS54.drew HI0.out)
           have n2_ := Aside0.mk (keep_drew HK.out)
           have n3_ := Aside0.mk (below_drew1 HB.out)
           clear HO_6
           clear HI0
           clear HK
           clear HB
           have HO_6 := n0_
           have HI0 := n1_
           have HK := n2_
           have HB := n3_
           clear n0_ n1_ n2_ n3_
           obtain ⟨Ao40, co40, eo40⟩ := kS HO_6.out
           (first|subst eo40|(injection eo40 with f1_ f2_ f3_; have f4_ := f1_.symm; have f5_ := f3_.symm; clear f1_ f2_ f3_; subst f4_; subst f5_))
           have p252 : 0 ≤ (t248 : Int) := oD (by first|(with_reducible assumption)|assumption)
           have q252 : t248 < (x6_2.length : Int) := oD (by first|(with_reducible assumption)|assumption)
           obtain ⟨ad252, e252, hx252_0⟩ := aI (kR HO_6.out).2.2 t248 p252 q252
           cases e252
           replace p252 := eq_true p252
           replace q252 := eq_true q252
           have p32 : 0 ≤ (t248 : Int) := oD (by first|(with_reducible assumption)|assumption)
           have q32 : (t248 : Int) < ((x6_2.length : Int) : Int) := oD (by first|(with_reducible assumption)|assumption)
           obtain ⟨go32, co32, eo32, gb32, gl32, cl32, HG32⟩ := Kd.R_form HO_6.out (by omega)
           (first|cases eo32|(injection eo32 with ea_ en_ ec_; (first|subst ea_|(injection ea_ with ea_; subst ea_)); subst ec_; clear en_))
           have GB32 := Aside0.mk gb32
           have GG32 := Aside0.mk HG32
           clear gb32 gl32 HG32
           (first|simp only [add_plain] at hx252_0|skip)
           obtain ⟨hx32_0, hf32_0⟩ := Kd.R_celln 0 HO_6.out (t248 : Int) p32 q32
           replace p32 := eq_true p32
           replace q32 := eq_true q32
           have HN0_go32 := Aside0.mk (show g ≠ go32 from by have h_ := IsS54.own_ne HI0.out HO_6.out (by decide); intro e_; exact h_ (by rw [e_]; rfl))
           have HP41 := Kd.R_putn HO_6.out (t248 : Int) (Go.bits .or .i64 (rd x6_2 t248) (ji31))
           rw [← Ny253.out] at HP41
           have HQ41 := Aside0.mk HP41
           clear HP41
           refine start_ (n := 11) (S := fun w' => w'.cell? ⟨go32, (t248).toNat, none⟩ = some (.int .i64 (rd x6_2 t248))) (ds := [10]) #[false, false, false, false, false, false, false, false, false, false, false] (by kernel_rfl) rfl rfl (hx252_0) (fun hHeld => ?_); refine with_tabW spec_l20Net.tab15 spec_l20Net.bits15 (fun HT_ HW_ => ?_)
           generalize w38.drew = w39 at HO_6 HI0 HK HB GG32 HQ41 hf32_0 hx252_0 hx32_0 hHeld ⊢
           refine pure_ (i := 0) (N := some 42) (v := ?_) (a' := ?_) #[true, false, false, false, false, false, false, false, false, false, false] rfl rfl (any_of HT_.out (by kernel_rfl)) (fun _ _ _ h => h) (Or.inl ⟨by rfl, ?_⟩) ?_ ?_
           rotate_left
           ·intro w'
            go_simp
            with_reducible rfl
           rotate_left
           ·simp only [Act.put, lA, lZ, lS, i64_w, i32_w]
            rfl
           refine pure_ (i := 1) (N := some 43) (v := ?_) (a' := ?_) #[true, true, false, false, false, false, false, false, false, false, false] rfl rfl (any_of HT_.out (by kernel_rfl)) (fun _ _ _ h => h) (Or.inl ⟨by rfl, ?_⟩) ?_ ?_
           rotate_left
           ·intro w'
            go_simp
            with_reducible rfl
           rotate_left
           ·simp only [Act.put, lA, lZ, lS, i64_w, i32_w]
            rfl
           refine pure_ (i := 2) (N := some 44) (v := ?_) (a' := ?_) #[true, true, true, false, false, false, false, false, false, false, false] rfl rfl (any_of HT_.out (by kernel_rfl)) (fun _ _ _ h => h) (Or.inl ⟨by rfl, ?_⟩) ?_ ?_
           rotate_left
           ·intro w'
            go_simp
            with_reducible rfl
           rotate_left
           ·simp only [Act.put, lA, lZ, lS, i64_w, i32_w]
            rfl
           refine pure_ (i := 3) (N := some 45) (v := ?_) (a' := ?_) #[true, true, true, true, false, false, false, false, false, false, false] rfl rfl (any_of HT_.out (by kernel_rfl)) (fun _ _ _ h => h) (Or.inl ⟨by rfl, ?_⟩) ?_ ?_
           rotate_left
           ·intro w'
            go_simp
            with_reducible rfl
           rotate_left
           ·simp only [Act.put, lA, lZ, lS, i64_w, i32_w]
            rfl
           refine pure_ (i := 4) (N := some 46) (v := ?_) (a' := ?_) #[true, true, true, true, true, false, false, false, false, false, false] rfl rfl (any_of HT_.out (by kernel_rfl)) (fun _ _ _ h => h) (Or.inl ⟨by rfl, ?_⟩) ?_ ?_
           rotate_left
           ·intro w'
            go_simp
            with_reducible rfl
           rotate_left
           ·simp only [Act.put, lA, lZ, lS, i64_w, i32_w]
            rfl
           refine pure_ (i := 6) (N := some 48) (v := ?_) (a' := ?_) #[true, true, true, true, true, false, true, false, false, false, false] rfl rfl (any_of HT_.out (by kernel_rfl)) (fun _ _ _ h => h) (Or.inl ⟨by rfl, ?_⟩) ?_ ?_
           rotate_left
           ·intro w'
            go_simp
            with_reducible rfl
           rotate_left
           ·simp only [Act.put, lA, lZ, lS, i64_w, i32_w]
            rfl
           refine pure_ (i := 7) (N := some 49) (v := ?_) (a' := ?_) #[true, true, true, true, true, false, true, true, false, false, false] rfl rfl (any_of HT_.out (by kernel_rfl)) (fun _ _ _ h => h) (Or.inl ⟨by rfl, ?_⟩) ?_ ?_
           rotate_left
           ·intro w'
            go_simp
            with_reducible rfl
           rotate_left
           ·simp only [Act.put, lA, lZ, lS, i64_w, i32_w]
            rfl
           refine take_ (i := 5) (N := some 47) (v := ?_) (a' := ?_) #[true, true, true, true, true, true, true, true, false, false, false] rfl rfl (take_ofW HT_.out HW_.out (by kernel_rfl)) (fun _ _ _ h => h) (Or.inl ⟨by rfl, ?_⟩) hHeld ?_ ?_
           rotate_left
           ·intro w' s0
            go_simp
            with_reducible rfl
           rotate_left
           ·simp only [Act.put, lA, lZ, lS, i64_w, i32_w]
            rfl
           refine pure_ (i := 8) (N := some 50) (v := ?_) (a' := ?_) #[true, true, true, true, true, true, true, true, true, false, false] rfl rfl (any_of HT_.out (by kernel_rfl)) (fun _ _ _ h => h) (Or.inl ⟨by rfl, ?_⟩) ?_ ?_
           rotate_left
           ·intro w'
            go_simp
            with_reducible rfl
           rotate_left
           ·simp only [Act.put, lA, lZ, lS, i64_w, i32_w]
            rfl
           refine pure_ (i := 9) (N := some 51) (v := ?_) (a' := ?_) #[true, true, true, true, true, true, true, true, true, true, false] rfl rfl (any_of HT_.out (by kernel_rfl)) (fun _ _ _ h => h) (Or.inl ⟨by rfl, ?_⟩) ?_ ?_
           rotate_left
           ·intro w'
            go_simp
            with_reducible rfl
           rotate_left
           ·simp only [Act.put, lA, lZ, lS, i64_w, i32_w]
            rfl
           refine last_ (i := 10) (N := none) #[true, true, true, true, true, true, true, true, true, true, true] rfl rfl (one_of HT_.out (by kernel_rfl)) (by decide) (fun K hK => ?_)
           refine skip_ (w1 := ?_) (by rfl) rfl ?_ ?_
           rotate_left
           ·go_simp
            rfl
           refine hK.out _ _ ?_
           clear hK K
           refine done_ (done_of HT_.out (by kernel_rfl)) ?_
           try go_wp2
           have n0_ : Aside0 (Kd.R (Kd.int .i64) 3 (w39.setCell ⟨go32, (t248 : Int).toNat, none⟩ (.int .i64 (Go.bits .or .i64 (rd x6_2 t248) (ji31)))) w.heap.size (fun _ => True) (.slice (some ⟨go32, 0, none⟩) x6_2.length co40) y253) := ⟨by (with_reducible repeat first|apply rA|apply rN|apply rD); exact HQ41.out⟩
           have n1_ : Aside0 (IsS54 w0 (w39.setCell ⟨go32, (t248 : Int).toNat, none⟩ (.int .i64 (Go.bits .or .i64 (rd x6_2 t248) (ji31)))) g s0_0 t251) := ⟨by repeat (first|(with_reducible first|exact HI0.out|apply IsS54.alloc|apply IsS54.drewN|apply IsS54.drew|apply IsS54.set_1|refine IsS54.far ?_ HN0_go32.out _)|exact HI0.out)⟩
           have n2_ : Aside0 (KeepBut w (w39.setCell ⟨go32, (t248 : Int).toNat, none⟩ (.int .i64 (Go.bits .or .i64 (rd x6_2 t248) (ji31)))) g none) := ⟨by repeat (first|(with_reducible first|exact HK.out|apply KeepBut.set_|apply keep_drewN|apply keep_drew|apply keep_alloc|refine keep_far ?_ GB32.out _)|exact HK.out)⟩
           have n3_ : Aside0 (Below w0.heap.size w0 (w39.setCell ⟨go32, (t248 : Int).toNat, none⟩ (.int .i64 (Go.bits .or .i64 (rd x6_2 t248) (ji31))))) := ⟨by repeat (first|(with_reducible first|exact HB.out|apply bA|apply bN|apply bD|refine below_set ?_ (Nat.le_trans HL.out GB32.out)|refine below_set ?_ (IsS54.ge HI0.out))|exact HB.out)⟩
           (try clear HO_6)
           (try clear HI0)
           (try clear HK)
           (try clear HB)
           generalize (w39.setCell ⟨go32, (t248 : Int).toNat, none⟩ (.int .i64 (Go.bits .or .i64 (rd x6_2 t248) (ji31)))) = w42 at n0_ n1_ n2_ n3_ ⊢
           have HO_6 := n0_
           have HI0 := n1_
           have HK := n2_
           have HB := n3_
           clear n0_ n1_ n2_ n3_
           have n0_ := Aside0.mk (Kd.R_drew HO_6.out)
           have n1_ := Aside0.mk (IsS54.drew HI0.out)
           have n2_ := Aside0.mk (keep_drew HK.out)
           have n3_ := Aside0.mk (below_drew1 HB.out)
           clear HO_6
           clear HI0
           clear HK
           clear HB
           have HO_6 := n0_
           have HI0 := n1_
           have HK := n2_
           have HB := n3_
           clear n0_ n1_ n2_ n3_
           have p254 : 0 ≤ (t250 : Int) := oD (by first|(with_reducible assumption)|assumption)
           have q254 : t250 < (y253.length : Int) := (by have h_ : (t250 : Int) < ((x6_2.length : Int) : Int) := oD (by first|(with_reducible assumption)|assumption); first|(have e_ := (kR HO_6.out).1; omega)|simpa only [Ny253.out, List.length_set] using h_)
           have ql254 : ((t250 : Int) < ((x6_2.length : Int) : Int)) = True := eq_true (oD (by first|(with_reducible assumption)|assumption))
           obtain ⟨ad254, e254, hx254_0⟩ := aI (kR HO_6.out).2.2 t250 p254 q254
           obtain rfl : (⟨go32, 0, none⟩ : Addr) = ad254 := (by injection e254)
           (first|simp only [add_plain] at hx254_0|simp only [add_at] at hx254_0|simp only [Addr.add, Nat.zero_add] at hx254_0|skip)
           replace p254 := eq_true p254
           replace q254 := eq_true q254
           have p36 : 0 ≤ (t250 : Int) := oD (by first|(with_reducible assumption)|assumption)
           have q36 : (t250 : Int) < ((x6_2.length : Int) : Int) := oD (by first|(with_reducible assumption)|assumption)
           obtain ⟨hx36_0, hf36_0⟩ := Kd.R_celln 0 HO_6.out (t250 : Int) p36 q36
           replace p36 := eq_true p36
           replace q36 := eq_true q36
           have HN0_go32 := Aside0.mk (show g ≠ go32 from by have h_ := IsS54.own_ne HI0.out HO_6.out (by decide); intro e_; exact h_ (by rw [e_]; rfl))
           have HP44 := Kd.R_putn HO_6.out (t250 : Int) (Go.bits .or .i64 (rd y253 t250) (ji35))
           rw [← Ny255.out] at HP44
           have HQ44 := Aside0.mk HP44
           clear HP44
           refine start_ (n := 11) (S := fun w' => w'.cell? ⟨go32, (t250).toNat, none⟩ = some (.int .i64 (rd y253 t250))) (ds := [10]) #[false, false, false, false, false, false, false, false, false, false, false] (by kernel_rfl) rfl rfl (hx254_0) (fun hHeld => ?_); refine with_tabW spec_l20Net.tab16 spec_l20Net.bits16 (fun HT_ HW_ => ?_)
           generalize w42.drew = w43 at HO_6 HI0 HK HB HQ41 HQ44 hf36_0 hx254_0 hx36_0 hHeld ⊢
           refine pure_ (i := 0) (N := some 52) (v := ?_) (a' := ?_) #[true, false, false, false, false, false, false, false, false, false, false] rfl rfl (any_of HT_.out (by kernel_rfl)) (fun _ _ _ h => h) (Or.inl ⟨by rfl, ?_⟩) ?_ ?_
           rotate_left
           ·intro w'
            go_simp
            with_reducible rfl
           rotate_left
           ·simp only [Act.put, lA, lZ, lS, i64_w, i32_w]
            rfl
           refine pure_ (i := 1) (N := some 53) (v := ?_) (a' := ?_) #[true, true, false, false, false, false, false, false, false, false, false] rfl rfl (any_of HT_.out (by kernel_rfl)) (fun _ _ _ h => h) (Or.inl ⟨by rfl, ?_⟩) ?_ ?_
           rotate_left
           ·intro w'
            go_simp
            with_reducible rfl
           rotate_left
           ·simp only [Act.put, lA, lZ, lS, i64_w, i32_w]
            rfl
           refine pure_ (i := 2) (N := some 54) (v := ?_) (a' := ?_) #[true, true, true, false, false, false, false, false, false, false, false] rfl rfl (any_of HT_.out (by kernel_rfl)) (fun _ _ _ h => h) (Or.inl ⟨by rfl, ?_⟩) ?_ ?_
           rotate_left
           ·intro w'
            go_simp
            with_reducible rfl
           rotate_left
           ·simp only [Act.put, lA, lZ, lS, i64_w, i32_w]
            rfl
           refine pure_ (i := 3) (N := some 55) (v := ?_) (a' := ?_) #[true, true, true, true, false, false, false, false, false, false, false] rfl rfl (any_of HT_.out (by kernel_rfl)) (fun _ _ _ h => h) (Or.inl ⟨by rfl, ?_⟩) ?_ ?_
           rotate_left
           ·intro w'
            go_simp
            with_reducible rfl
           rotate_left
           ·simp only [Act.put, lA, lZ, lS, i64_w, i32_w]
            rfl
           refine pure_ (i := 4) (N := some 56) (v := ?_) (a' := ?_) #[true, true, true, true, true, false, false, false, false, false, false] rfl rfl (any_of HT_.out (by kernel_rfl)) (fun _ _ _ h => h) (Or.inl ⟨by rfl, ?_⟩) ?_ ?_
           rotate_left
           ·intro w'
            go_simp
            with_reducible rfl
           rotate_left
           ·simp only [Act.put, lA, lZ, lS, i64_w, i32_w]
            rfl
           refine pure_ (i := 6) (N := some 58) (v := ?_) (a' := ?_) #[true, true, true, true, true, false, true, false, false, false, false] rfl rfl (any_of HT_.out (by kernel_rfl)) (fun _ _ _ h => h) (Or.inl ⟨by rfl, ?_⟩) ?_ ?_
           rotate_left
           ·intro w'
            go_simp
            with_reducible rfl
           rotate_left
           ·simp only [Act.put, lA, lZ, lS, i64_w, i32_w]
            rfl
           refine pure_ (i := 7) (N := some 59) (v := ?_) (a' := ?_) #[true, true, true, true, true, false, true, true, false, false, false] rfl rfl (any_of HT_.out (by kernel_rfl)) (fun _ _ _ h => h) (Or.inl ⟨by rfl, ?_⟩) ?_ ?_
           rotate_left
           ·intro w'
            go_simp
            with_reducible rfl
           rotate_left
           ·simp only [Act.put, lA, lZ, lS, i64_w, i32_w]
            rfl
           refine take_ (i := 5) (N := some 57) (v := ?_) (a' := ?_) #[true, true, true, true, true, true, true, true, false, false, false] rfl rfl (take_ofW HT_.out HW_.out (by kernel_rfl)) (fun _ _ _ h => h) (Or.inl ⟨by rfl, ?_⟩) hHeld ?_ ?_
           rotate_left
           ·intro w' s0
            go_simp
            with_reducible rfl
           rotate_left
           ·simp only [Act.put, lA, lZ, lS, i64_w, i32_w]
            rfl
           refine pure_ (i := 8) (N := some 60) (v := ?_) (a' := ?_) #[true, true, true, true, true, true, true, true, true, false, false] rfl rfl (any_of HT_.out (by kernel_rfl)) (fun _ _ _ h => h) (Or.inl ⟨by rfl, ?_⟩) ?_ ?_
           rotate_left
           ·intro w'
            go_simp
            with_reducible rfl
           rotate_left
           ·simp only [Act.put, lA, lZ, lS, i64_w, i32_w]
            rfl
           refine pure_ (i := 9) (N := some 61) (v := ?_) (a' := ?_) #[true, true, true, true, true, true, true, true, true, true, false] rfl rfl (any_of HT_.out (by kernel_rfl)) (fun _ _ _ h => h) (Or.inl ⟨by rfl, ?_⟩) ?_ ?_
           rotate_left
           ·intro w'
            go_simp
            with_reducible rfl
           rotate_left
           ·simp only [Act.put, lA, lZ, lS, i64_w, i32_w]
            rfl
           refine last_ (i := 10) (N := none) #[true, true, true, true, true, true, true, true, true, true, true] rfl rfl (one_of HT_.out (by kernel_rfl)) (by decide) (fun K hK => ?_)
           refine skip_ (w1 := ?_) (by rfl) rfl ?_ ?_
           rotate_left
           ·go_simp
            rfl
           refine hK.out _ _ ?_
           clear hK K
           refine done_ (done_of HT_.out (by kernel_rfl)) ?_
           try go_wp2
           go_roundg k2
           case measure => have := HJ5.out; have := HK2.out; omega
           case rel => exact ⟨(y255), (wrap64 (x7_2 - 1)), (t251), (by first|rfl|(simp; done)|(simp [*]; done)), H', ⟨by have := HJ5.out; have := HK2.out; omega⟩, ⟨by (with_reducible repeat first|apply rA|apply rN|apply rD); exact HQ44.out⟩, ⟨by repeat (first|(with_reducible first|exact HI0.out|apply IsS54.alloc|apply IsS54.drewN|apply IsS54.drew|apply IsS54.set_1|refine IsS54.far ?_ HN0_go32.out _)|exact HI0.out)⟩, ⟨by repeat (first|(with_reducible first|exact HK.out|apply KeepBut.set_|apply keep_drewN|apply keep_drew|apply keep_alloc|refine keep_far ?_ GB32.out _)|exact HK.out)⟩, ⟨by repeat (first|(with_reducible first|exact HB.out|apply bA|apply bN|apply bD|refine below_set ?_ (Nat.le_trans HL.out GB32.out)|refine below_set ?_ (IsS54.ge HI0.out))|exact HB.out)⟩⟩
          ·rw [if_neg c33] at H
           exact absurd H (by simp)
         ·rw [if_neg c30] at H
          exact absurd H (by simp)
        ·rw [if_neg c29] at H
         exact absurd H (by simp)
       ·rw [if_neg c28] at H
        exact absurd H (by simp)
     ·rw [if_neg c22] at H
      have c22b0 : decide (0 < x7_2) = false := decide_eq_false c22
      clear c22
      replace H := Option.bind_eq_some_iff.mp H
      obtain ⟨⟨t256, t257⟩, A450, H⟩ := H
      replace H : (if t256 = true then ((spec_l20Rd_pick.f k2 s0_0 t257 3).bind fun bt258 => (if bt258.1 = 0 then (some ((([] : List Int)), bt258.2)) else (if bt258.1 = 1 then (if 0 < (x6_2.length : Int) then (some ((x6_2.set (0 : Int).toNat (Go.bits .or .i64 (rd x6_2 0) 1)), bt258.2)) else (none)) else (if 0 < (x6_2.length : Int) then (if 0 ≤ (wrap64 ((wrap64 (1 + t233)) - 1)) then ((some (x6_2.set (0 : Int).toNat (Go.bits .xor .i64 (rd x6_2 0) (shl .i64 1 (wrap64 ((wrap64 (1 + t233)) - 1)))) : List Int)).bind fun y266 => (if (wrap64 (1 + t233)) = 1 then (some ((y266.set (0 : Int).toNat (-1)), bt258.2)) else (some (y266, bt258.2)))) else (none)) else (none))))) else (some (x6_2, t257))) = some (r1, r2) := H
      have A45 := Aside0.mk A450
      clear A450
      by_cases c46 : t256 = true
      ·subst c46
       have H1 : ((spec_l20Rd_pick.f k2 s0_0 t257 3).bind fun bt258 => (if bt258.1 = 0 then (some ((([] : List Int)), bt258.2)) else (if bt258.1 = 1 then (if 0 < (x6_2.length : Int) then (some ((x6_2.set (0 : Int).toNat (Go.bits .or .i64 (rd x6_2 0) 1)), bt258.2)) else (none)) else (if 0 < (x6_2.length : Int) then (if 0 ≤ (wrap64 ((wrap64 (1 + t233)) - 1)) then ((some (x6_2.set (0 : Int).toNat (Go.bits .xor .i64 (rd x6_2 0) (shl .i64 1 (wrap64 ((wrap64 (1 + t233)) - 1)))) : List Int)).bind fun y266 => (if (wrap64 (1 + t233)) = 1 then (some ((y266.set (0 : Int).toNat (-1)), bt258.2)) else (some (y266, bt258.2)))) else (none)) else (none))))) = some (r1, r2) := by rw [if_pos rfl] at H; exact H
       clear H
       have H := H1
       clear H1
       replace H := Option.bind_eq_some_iff.mp H
       obtain ⟨⟨t258, t259⟩, A470, H⟩ := H
       replace H : (if t258 = 0 then (some ((([] : List Int)), t259)) else (if t258 = 1 then (if 0 < (x6_2.length : Int) then (some ((x6_2.set (0 : Int).toNat (Go.bits .or .i64 (rd x6_2 0) 1)), t259)) else (none)) else (if 0 < (x6_2.length : Int) then (if 0 ≤ (wrap64 ((wrap64 (1 + t233)) - 1)) then ((some (x6_2.set (0 : Int).toNat (Go.bits .xor .i64 (rd x6_2 0) (shl .i64 1 (wrap64 ((wrap64 (1 + t233)) - 1)))) : List Int)).bind fun y266 => (if (wrap64 (1 + t233)) = 1 then (some ((y266.set (0 : Int).toNat (-1)), t259)) else (some (y266, t259)))) else (none)) else (none)))) = some (r1, r2) := H
       have A47 := Aside0.mk A470
       clear A470
       by_cases c48 : t258 = 0
       ·rw [if_pos c48] at H
        have c48b0 : (t258 == 0) = true := beq_iff_eq.mpr c48
        have c48b1 : (t258 != 0) = false := bne_eq_false_iff_eq.mpr c48
        clear c48
        obtain ⟨y260, hy260⟩ : ∃ y_ : List Int, y_ = (([] : List Int)) := ⟨_, rfl⟩
        replace H : (some (y260, t259)) = some (r1, r2) := by first|(rw [hy260]; with_reducible exact H)|(have H2_ := (Option.bind_some _ _).symm.trans H; rw [hy260]; with_reducible exact H2_)|(have H2_ := (Option.bind_some _ _).symm.trans H; with_reducible exact H2_)|with_reducible exact H|(rw [hy260]; exact H)|exact H
        have Ny260 := Aside0.mk hy260
        clear hy260
        simp only [Option.some.injEq, Prod.mk.injEq] at H
        obtain ⟨rfl, rfl⟩ := H
        go_wp2_with (first|((with_reducible refine gate_callee (f:=35) rfl ?_);refine goesL_ (some 64) rfl rfl Try.func35 (by kernel_rfl) rfl #[.pointer (some ⟨g,0,none⟩),.int .i64 a1] rfl (by (try simp only [List.map_toArray,List.map_cons,List.map_nil]);first|done|rfl|(simp only [List.length_drop,List.length_take];rfl)) ?_;(with_reducible refine (spec_l20Rd_odd.calls k2 g s0_0 x1001_2 a1 true t257 w0 _ ?side1 ?side2 A45.out).mono ?_);(case side1 => repeat (first|(with_reducible first|exact HI0.out|apply IsS54.alloc|apply IsS54.drewN|apply IsS54.drew|apply IsS54.set_1)|exact HI0.out));(case side2 => repeat (first|(with_reducible first|exact HB.out|apply bA|apply bN|apply bD|refine below_set ?_ (IsS54.ge HI0.out))|exact HB.out));rintro e w49 ⟨rfl,hi,hb,hk⟩;refine ⟨_,rfl,?_⟩;have n0_:=Aside0.mk (Kd.R_mono (Kd.R_keep (IsS54.apart (show IsS54 w0 _ g s0_0 x1001_2 from by repeat (first|(with_reducible first|exact HI0.out|apply IsS54.alloc|apply IsS54.drewN|apply IsS54.drew|apply IsS54.set_1)|exact HI0.out)) (by (with_reducible repeat first|apply rA|apply rN|apply rD);exact HO_6.out) (by decide)) hk (fun _ h => h.2)) (fun _ h => h.1));have n1_:=Aside0.mk (KeepBut.trans (by repeat (first|(with_reducible first|exact HK.out|apply KeepBut.set_|apply keep_drewN|apply keep_drew|apply keep_alloc)|exact HK.out)) hk (.inl rfl));have n2_:=Aside0.mk (hb);have n3_:=Aside0.mk (hi);clear HO_6;clear HK;clear HB;clear HI0;have HO_6:=n0_;have HK:=n1_;have HB:=n2_;have HI0:=n3_;clear n0_ n1_ n2_ n3_;(try clear hb);(try clear hb2);(try clear hk);(try clear hi))|((with_reducible refine gate_callee (f:=31) rfl ?_);refine goesL_ (some 66) rfl rfl Try.func31 (by kernel_rfl) rfl #[.pointer (some ⟨g,0,none⟩),.int .i64 3] rfl (by (try simp only [List.map_toArray,List.map_cons,List.map_nil]);first|done|rfl|(simp only [List.length_drop,List.length_take];rfl)) ?_;(with_reducible refine (spec_l20Rd_pick.calls k2 g s0_0 t257 3 t258 t259 w0 _ ?side1 ?side2 A47.out).mono ?_);(case side1 => repeat (first|(with_reducible first|exact HI0.out|apply IsS54.alloc|apply IsS54.drewN|apply IsS54.drew|apply IsS54.set_1)|exact HI0.out));(case side2 => repeat (first|(with_reducible first|exact HB.out|apply bA|apply bN|apply bD|refine below_set ?_ (IsS54.ge HI0.out))|exact HB.out));rintro e w50 ⟨rfl,hi,hb,hk⟩;refine ⟨_,rfl,?_⟩;have n0_:=Aside0.mk (Kd.R_mono (Kd.R_keep (IsS54.apart (show IsS54 w0 _ g s0_0 t257 from by repeat (first|(with_reducible first|exact HI0.out|apply IsS54.alloc|apply IsS54.drewN|apply IsS54.drew|apply IsS54.set_1)|exact HI0.out)) (by (with_reducible repeat first|apply rA|apply rN|apply rD);exact HO_6.out) (by decide)) hk (fun _ h => h.2)) (fun _ h => h.1));have n1_:=Aside0.mk (KeepBut.trans (by repeat (first|(with_reducible first|exact HK.out|apply KeepBut.set_|apply keep_drewN|apply keep_drew|apply keep_alloc)|exact HK.out)) hk (.inl rfl));have n2_:=Aside0.mk (hb);have n3_:=Aside0.mk (hi);clear HO_6;clear HK;clear HB;clear HI0;have HO_6:=n0_;have HK:=n1_;have HB:=n2_;have HI0:=n3_;clear n0_ n1_ n2_ n3_;(try clear hb);(try clear hb2);(try clear hk);(try clear hi))|((with_reducible refine gate_dst (N:=82) rfl ?_);refine Kd.R_lit (Kd.int .i64) _ 3 ?hg (N:=82) ?hd (xs:=([] : List Int)) (inner:=[]) (ok:=fun _ => True) (okp:=fun _ => True) ?hr ?hp (fun _ hk => hk) trivial (Below.refl _ _) (Nat.le_refl _) (by simp) ?_;(case hd => rfl);(case hg => rfl);(case hr => first|(go_simp;done)|(go_simp;rfl));(case hp => exact (Reps.none _ _));intro v261 w51 ho52 hb hg_ hnew_;clear hg_ hnew_;(first|rw [← Ny260.out] at ho52|(simp only [Int.reduceToNat] at ho52;rw [← Ny260.out] at ho52));have n0_:=Aside0.mk (kE (by (with_reducible repeat first|apply rA|apply rN|apply rD);exact HO_6.out) (Kd.R_base ho52) hb);have n1_:=Aside0.mk (Kd.R_lower (kN ho52 (Kd.R_lt (by (with_reducible repeat first|apply rA|apply rN|apply rD);exact HO_6.out))) (keep_size (w:=w) (g:=g) (row:=none) (by repeat (first|(with_reducible first|exact HK.out|apply KeepBut.set_|apply keep_drewN|apply keep_drew|apply keep_alloc)|exact HK.out))));have n2_:=Aside0.mk (IsS54.below (by repeat (first|(with_reducible first|exact HI0.out|apply IsS54.alloc|apply IsS54.drewN|apply IsS54.drew|apply IsS54.set_1)|exact HI0.out)) hb);have n3_:=Aside0.mk (KeepBut.trans (by repeat (first|(with_reducible first|exact HK.out|apply KeepBut.set_|apply keep_drewN|apply keep_drew|apply keep_alloc)|exact HK.out)) (KeepBut.of_below hb g none) (.inl rfl));have n4_:=Aside0.mk (bT (by repeat (first|(with_reducible first|exact HB.out|apply bA|apply bN|apply bD|refine below_set ?_ (IsS54.ge HI0.out))|exact HB.out)) hb);clear HO_6;clear HI0;clear HK;clear HB;have HO_6:=n0_;have HO262:=n1_;have HI0:=n2_;have HK:=n3_;have HB:=n4_;clear n0_ n1_ n2_ n3_ n4_;clear hb ho52))
        go_ret
        exact ⟨_, by first|rfl|(simp [errW_none, errW_some] <;> rfl)|(simp [*, errW_none, errW_some] <;> rfl), by (with_reducible repeat first|apply rA|apply rN|apply rD); exact Kd.R_mono HO262.out (fun _ hk => trivial), by repeat (first|(with_reducible first|exact HI0.out|apply IsS54.alloc|apply IsS54.drewN|apply IsS54.drew|apply IsS54.set_1)|exact HI0.out), by repeat (first|(with_reducible first|exact HB.out|apply bA|apply bN|apply bD|refine below_set ?_ (IsS54.ge HI0.out))|exact HB.out), by repeat (first|(with_reducible first|exact HK.out|apply KeepBut.set_|apply keep_drewN|apply keep_drew|apply keep_alloc)|exact HK.out)⟩
       ·rw [if_neg c48] at H
        have c48b0 : (t258 == 0) = false := beq_eq_false_iff_ne.mpr c48
        have c48b1 : (t258 != 0) = true := bne_iff_ne.mpr c48
        by_cases c53 : t258 = 1
        ·rw [if_pos c53] at H
         have c53b0 : (t258 == 1) = true := beq_iff_eq.mpr c53
         have c53b1 : (t258 != 1) = false := bne_eq_false_iff_eq.mpr c53
         clear c53
         by_cases c54 : 0 < (x6_2.length : Int)
         ·rw [if_pos c54] at H
          have c54b0 : decide (0 < (x6_2.length : Int)) = true := decide_eq_true c54
          have c54b1 : decide (0 < x6_2.length) = true := decide_eq_true (by omega)
          clear c54
          obtain ⟨y264, hy264⟩ : ∃ y_ : List Int, y_ = (x6_2.set (0 : Int).toNat (Go.bits .or .i64 (rd x6_2 0) 1)) := ⟨_, rfl⟩
          replace H : (some (y264, t259)) = some (r1, r2) := by first|(rw [hy264]; with_reducible exact H)|(have H2_ := (Option.bind_some _ _).symm.trans H; rw [hy264]; with_reducible exact H2_)|(have H2_ := (Option.bind_some _ _).symm.trans H; with_reducible exact H2_)|with_reducible exact H|(rw [hy264]; exact H)|exact H
          have Ny264 := Aside0.mk hy264
          clear hy264
          simp only [Option.some.injEq, Prod.mk.injEq] at H
          obtain ⟨rfl, rfl⟩ := H
          go_wp2_with (first|((with_reducible refine gate_callee (f:=35) rfl ?_);refine goesL_ (some 64) rfl rfl Try.func35 (by kernel_rfl) rfl #[.pointer (some ⟨g,0,none⟩),.int .i64 a1] rfl (by (try simp only [List.map_toArray,List.map_cons,List.map_nil]);first|done|rfl|(simp only [List.length_drop,List.length_take];rfl)) ?_;(with_reducible refine (spec_l20Rd_odd.calls k2 g s0_0 x1001_2 a1 true t257 w0 _ ?side1 ?side2 A45.out).mono ?_);(case side1 => repeat (first|(with_reducible first|exact HI0.out|apply IsS54.alloc|apply IsS54.drewN|apply IsS54.drew|apply IsS54.set_1)|exact HI0.out));(case side2 => repeat (first|(with_reducible first|exact HB.out|apply bA|apply bN|apply bD|refine below_set ?_ (IsS54.ge HI0.out))|exact HB.out));rintro e w56 ⟨rfl,hi,hb,hk⟩;refine ⟨_,rfl,?_⟩;have n0_:=Aside0.mk (Kd.R_mono (Kd.R_keep (IsS54.apart (show IsS54 w0 _ g s0_0 x1001_2 from by repeat (first|(with_reducible first|exact HI0.out|apply IsS54.alloc|apply IsS54.drewN|apply IsS54.drew|apply IsS54.set_1)|exact HI0.out)) (by (with_reducible repeat first|apply rA|apply rN|apply rD);exact HO_6.out) (by decide)) hk (fun _ h => h.2)) (fun _ h => h.1));have n1_:=Aside0.mk (KeepBut.trans (by repeat (first|(with_reducible first|exact HK.out|apply KeepBut.set_|apply keep_drewN|apply keep_drew|apply keep_alloc)|exact HK.out)) hk (.inl rfl));have n2_:=Aside0.mk (hb);have n3_:=Aside0.mk (hi);clear HO_6;clear HK;clear HB;clear HI0;have HO_6:=n0_;have HK:=n1_;have HB:=n2_;have HI0:=n3_;clear n0_ n1_ n2_ n3_;(try clear hb);(try clear hb2);(try clear hk);(try clear hi))|((with_reducible refine gate_callee (f:=31) rfl ?_);refine goesL_ (some 66) rfl rfl Try.func31 (by kernel_rfl) rfl #[.pointer (some ⟨g,0,none⟩),.int .i64 3] rfl (by (try simp only [List.map_toArray,List.map_cons,List.map_nil]);first|done|rfl|(simp only [List.length_drop,List.length_take];rfl)) ?_;(with_reducible refine (spec_l20Rd_pick.calls k2 g s0_0 t257 3 t258 t259 w0 _ ?side1 ?side2 A47.out).mono ?_);(case side1 => repeat (first|(with_reducible first|exact HI0.out|apply IsS54.alloc|apply IsS54.drewN|apply IsS54.drew|apply IsS54.set_1)|exact HI0.out));(case side2 => repeat (first|(with_reducible first|exact HB.out|apply bA|apply bN|apply bD|refine below_set ?_ (IsS54.ge HI0.out))|exact HB.out));rintro e w57 ⟨rfl,hi,hb,hk⟩;refine ⟨_,rfl,?_⟩;have n0_:=Aside0.mk (Kd.R_mono (Kd.R_keep (IsS54.apart (show IsS54 w0 _ g s0_0 t257 from by repeat (first|(with_reducible first|exact HI0.out|apply IsS54.alloc|apply IsS54.drewN|apply IsS54.drew|apply IsS54.set_1)|exact HI0.out)) (by (with_reducible repeat first|apply rA|apply rN|apply rD);exact HO_6.out) (by decide)) hk (fun _ h => h.2)) (fun _ h => h.1));have n1_:=Aside0.mk (KeepBut.trans (by repeat (first|(with_reducible first|exact HK.out|apply KeepBut.set_|apply keep_drewN|apply keep_drew|apply keep_alloc)|exact HK.out)) hk (.inl rfl));have n2_:=Aside0.mk (hb);have n3_:=Aside0.mk (hi);clear HO_6;clear HK;clear HB;clear HI0;have HO_6:=n0_;have HK:=n1_;have HB:=n2_;have HI0:=n3_;clear n0_ n1_ n2_ n3_;(try clear hb);(try clear hb2);(try clear hk);(try clear hi);obtain ⟨Ao58,co58,eo58⟩:=kS HO_6.out;subst eo58;have p263 : 0 ≤ (0 : Int):=(by omega);have q263 : 0 < (x6_2.length : Int):=oD (by first|(with_reducible assumption)|assumption);obtain ⟨ad263,e263,hx263_0⟩:=aI (kR HO_6.out).2.2 0 p263 q263;cases e263;have qi263 : (0 < x6_2.length) = True:=eq_true (by omega);(try rw [show ((0 : Int)).toNat = 0 from rfl] at hx263_0);(try rw [Addr.add_zero'] at hx263_0);replace p263:=eq_true p263;replace q263:=eq_true q263;have p55 : 0 ≤ (0 : Int):=(by omega);have q55 : (0 : Int) < ((x6_2.length : Int) : Int):=oD (by first|(with_reducible assumption)|assumption);have qi55 : (0 < x6_2.length) = True:=eq_true (by omega);obtain ⟨go55,co55,eo55,gb55,gl55,cl55,HG55⟩:=Kd.R_form HO_6.out (by omega);(first|cases eo55|(injection eo55 with ea_ en_ ec_;(first|subst ea_|(injection ea_ with ea_;subst ea_));subst ec_;clear en_));have GB55:=Aside0.mk gb55;have GG55:=Aside0.mk HG55;clear gb55 gl55 HG55;(first|simp only [add_plain] at hx263_0|skip);obtain ⟨hx55_0,hf55_0⟩:=Kd.R_celln 0 HO_6.out (0 : Int) p55 q55;(try rw [show ((0 : Int)).toNat = 0 from rfl] at hx55_0);(try simp only [Nat.reduceMul,Nat.zero_mul,Nat.zero_add,Nat.reduceAdd] at hx55_0);(try rw [show ((0 : Int)).toNat = 0 from rfl] at hf55_0);(try simp only [Nat.reduceMul,Nat.zero_mul,Nat.zero_add,Nat.reduceAdd] at hf55_0);replace p55:=eq_true p55;replace q55:=eq_true q55;obtain ⟨hy59_,hz59_⟩:=Kd.R_celln 0 HO_6.out (0 : Int) (by omega) (oD (by first|(with_reducible assumption)|assumption));(try simp only [Int.reduceToNat,Int.toNat_zero,Int.toNat_ofNat,Nat.reduceMul,Nat.zero_mul,Nat.zero_add] at hy59_ hz59_);(try rw [show ((0 : Int)).toNat = 0 from rfl] at hy59_);(try rw [show ((0 : Int)).toNat = 0 from rfl] at hz59_);have HP59:=Kd.R_putg HO_6.out (0 : Int) (Go.bits .or .i64 (rd x6_2 0) 1))|((with_reducible refine gate_store (t:=3) (p:=90) rfl ?_);refine store_event (t:=3) (p:=90) (v:=?vo_w60) (w1:=(w57.setCell ⟨go55,(0 : Int).toNat,none⟩ (.int .i64 (Go.bits .or .i64 (rd x6_2 0) 1)))) ?hg ?ho ?hn ?hr ?_;(case ho => rfl);(case hg => rfl);(case hn => rfl);(case hr => first|(go_simp;done)|(go_simp;rfl));intro w60 hw;have hg : w57.grownBy w60 (some go55):=(by rw [hw];exact HP59.2);have hp_ : Kd.R (Kd.int .i64) 3 w60 w.heap.size (fun _ => True) (.slice (some ⟨go55,0,none⟩) x6_2.length co58) y264:=(by rw [hw,Ny264.out];exact HP59.1);clear HP59;have n0_:=Aside0.mk (hp_);have n1_:=Aside0.mk (IsS54.grown (by repeat (first|(with_reducible first|exact HI0.out|apply IsS54.alloc|apply IsS54.drewN|apply IsS54.drew|apply IsS54.set_1)|exact HI0.out)) hg (IsS54.own_ne HI0.out HO_6.out (by decide)));have n2_:=Aside0.mk ((by rw [hw];exact below_set (HB.out) (Nat.le_trans HL.out GB55.out) : Below w0.heap.size w0 w60));have n3_:=Aside0.mk (KeepBut.trans (by repeat (first|(with_reducible first|exact HK.out|apply KeepBut.set_|apply keep_drewN|apply keep_drew|apply keep_alloc)|exact HK.out)) (KeepBut.of_grown hg g) (Kd.R_base2 HO_6.out));clear HO_6;clear HI0;clear HB;clear HK;have HO_6:=n0_;have HI0:=n1_;have HB:=n2_;have HK:=n3_;clear n0_ n1_ n2_ n3_;clear hg hw hp_))
          go_ret
          exact ⟨_, by first|rfl|(simp [errW_none, errW_some] <;> rfl)|(simp [*, errW_none, errW_some] <;> rfl), by (with_reducible repeat first|apply rA|apply rN|apply rD); exact HO_6.out, by repeat (first|(with_reducible first|exact HI0.out|apply IsS54.alloc|apply IsS54.drewN|apply IsS54.drew|apply IsS54.set_1)|exact HI0.out), by repeat (first|(with_reducible first|exact HB.out|apply bA|apply bN|apply bD|refine below_set ?_ (IsS54.ge HI0.out))|exact HB.out), by repeat (first|(with_reducible first|exact HK.out|apply KeepBut.set_|apply keep_drewN|apply keep_drew|apply keep_alloc)|exact HK.out)⟩
         ·rw [if_neg c54] at H
          exact absurd H (by simp)
        ·rw [if_neg c53] at H
         have c53b0 : (t258 == 1) = false := beq_eq_false_iff_ne.mpr c53
         have c53b1 : (t258 != 1) = true := bne_iff_ne.mpr c53
         by_cases c61 : 0 < (x6_2.length : Int)
         ·rw [if_pos c61] at H
          have c61b0 : decide (0 < (x6_2.length : Int)) = true := decide_eq_true c61
          have c61b1 : decide (0 < x6_2.length) = true := decide_eq_true (by omega)
          clear c61
          obtain ⟨ji62, hji62⟩ : ∃ j_ : Int, (wrap64 ((wrap64 (1 + t233)) - 1)) = j_ := ⟨_, rfl⟩
          replace H : (if 0 ≤ (ji62) then ((some (x6_2.set (0 : Int).toNat (Go.bits .xor .i64 (rd x6_2 0) (shl .i64 1 (ji62))) : List Int)).bind fun y266 => (if (wrap64 (1 + t233)) = 1 then (some ((y266.set (0 : Int).toNat (-1)), t259)) else (some (y266, t259)))) else (none)) = some (r1, r2) := by first|(rw [hji62] at H; exact H)|(simp only [hji62] at H ⊢; exact H)
          (try rw [hji62] at A45)
          (try rw [hji62] at A47)
          have hji62w : (IntKind.i64.wrap ((wrap64 (1 + t233)) - 1)) = ji62 := (i64_w _).trans hji62
          by_cases c63 : 0 ≤ (ji62)
          ·rw [if_pos c63] at H
           have c63b0 := eq_true c63
           have c63b1 : decide (0 ≤ (ji62)) = true := decide_eq_true c63
           clear c63
           obtain ⟨ji64, hji64⟩ : ∃ j_ : Int, (shl .i64 1 (ji62)) = j_ := ⟨_, rfl⟩
           replace H : ((some (x6_2.set (0 : Int).toNat (Go.bits .xor .i64 (rd x6_2 0) (ji64)) : List Int)).bind fun y266 => (if (wrap64 (1 + t233)) = 1 then (some ((y266.set (0 : Int).toNat (-1)), t259)) else (some (y266, t259)))) = some (r1, r2) := by first|(rw [hji64] at H; exact H)|(simp only [hji64] at H ⊢; exact H)
           (try rw [hji64] at A45)
           (try rw [hji64] at A47)
           have hji64_ : (IntKind.i64.wrap (1 * 2 ^ min (ji62).toNat 64)) = ji64 := hji64
           have hji64z : (ji62) ≤ 64 → (IntKind.i64.wrap (1 * 2 ^ (ji62).toNat)) = ji64 := shl_small hji64
           have hji64u : (IntKind.i64.wrap (2 ^ min (ji62).toNat 64)) = ji64 := by have h_ := hji64_; rw [Int.one_mul] at h_; exact h_
           have hji64v : (ji62) ≤ 64 → (IntKind.i64.wrap (2 ^ (ji62).toNat)) = ji64 := fun hle_ => by have h_ := hji64z hle_; rw [Int.one_mul] at h_; exact h_
           have hji64y : (wrap64 (1 * 2 ^ min (ji62).toNat 64)) = ji64 := (i64_w _).symm.trans hji64_
           have hji64x : (ji62) ≤ 64 → (wrap64 (1 * 2 ^ (ji62).toNat)) = ji64 := fun h_ => (i64_w _).symm.trans (hji64z h_)
           obtain ⟨y266, hy266⟩ : ∃ y_ : List Int, y_ = (x6_2.set (0 : Int).toNat (Go.bits .xor .i64 (rd x6_2 0) (ji64))) := ⟨_, rfl⟩
           replace H : (if (wrap64 (1 + t233)) = 1 then (some ((y266.set (0 : Int).toNat (-1)), t259)) else (some (y266, t259))) = some (r1, r2) := by first|(rw [hy266]; with_reducible exact H)|(have H2_ := (Option.bind_some _ _).symm.trans H; rw [hy266]; with_reducible exact H2_)|(have H2_ := (Option.bind_some _ _).symm.trans H; with_reducible exact H2_)|with_reducible exact H|(rw [hy266]; exact H)|exact H
           have Ny266 := Aside0.mk hy266
           clear hy266
           by_cases c66 : (wrap64 (1 + t233)) = 1
           ·rw [if_pos c66] at H
            have c66b0 : ((wrap64 (1 + t233)) == 1) = true := beq_iff_eq.mpr c66
            (try (have c66b0_w := c66b0; rw [← i64_w] at c66b0_w))
            have c66b1 : ((wrap64 (1 + t233)) != 1) = false := bne_eq_false_iff_eq.mpr c66
            (try (have c66b1_w := c66b1; rw [← i64_w] at c66b1_w))
            clear c66
            obtain ⟨y267, hy267⟩ : ∃ y_ : List Int, y_ = (y266.set (0 : Int).toNat (-1)) := ⟨_, rfl⟩
            replace H : (some (y267, t259)) = some (r1, r2) := by first|(rw [hy267]; with_reducible exact H)|(have H2_ := (Option.bind_some _ _).symm.trans H; rw [hy267]; with_reducible exact H2_)|(have H2_ := (Option.bind_some _ _).symm.trans H; with_reducible exact H2_)|with_reducible exact H|(rw [hy267]; exact H)|exact H
            have Ny267 := Aside0.mk hy267
            clear hy267
            simp only [Option.some.injEq, Prod.mk.injEq] at H
            obtain ⟨rfl, rfl⟩ := H
            try go_wp2_with (first|((with_reducible refine gate_callee (f:=35) rfl ?_);refine goesL_ (some 64) rfl rfl Try.func35 (by kernel_rfl) rfl #[.pointer (some ⟨g,0,none⟩),.int .i64 a1] rfl (by (try simp only [List.map_toArray,List.map_cons,List.map_nil]);first|done|rfl|(simp only [List.length_drop,List.length_take];rfl)) ?_;(with_reducible refine (spec_l20Rd_odd.calls k2 g s0_0 x1001_2 a1 true t257 w0 _ ?side1 ?side2 A45.out).mono ?_);(case side1 => repeat (first|(with_reducible first|exact HI0.out|apply IsS54.alloc|apply IsS54.drewN|apply IsS54.drew|apply IsS54.set_1)|exact HI0.out));(case side2 => repeat (first|(with_reducible first|exact HB.out|apply bA|apply bN|apply bD|refine below_set ?_ (IsS54.ge HI0.out))|exact HB.out));rintro e w68 ⟨rfl,hi,hb,hk⟩;refine ⟨_,rfl,?_⟩;have n0_:=Aside0.mk (Kd.R_mono (Kd.R_keep (IsS54.apart (show IsS54 w0 _ g s0_0 x1001_2 from by repeat (first|(with_reducible first|exact HI0.out|apply IsS54.alloc|apply IsS54.drewN|apply IsS54.drew|apply IsS54.set_1)|exact HI0.out)) (by (with_reducible repeat first|apply rA|apply rN|apply rD);exact HO_6.out) (by decide)) hk (fun _ h => h.2)) (fun _ h => h.1));have n1_:=Aside0.mk (KeepBut.trans (by repeat (first|(with_reducible first|exact HK.out|apply KeepBut.set_|apply keep_drewN|apply keep_drew|apply keep_alloc)|exact HK.out)) hk (.inl rfl));have n2_:=Aside0.mk (hb);have n3_:=Aside0.mk (hi);clear HO_6;clear HK;clear HB;clear HI0;have HO_6:=n0_;have HK:=n1_;have HB:=n2_;have HI0:=n3_;clear n0_ n1_ n2_ n3_;(try clear hb);(try clear hb2);(try clear hk);(try clear hi))|((with_reducible refine gate_callee (f:=31) rfl ?_);refine goesL_ (some 66) rfl rfl Try.func31 (by kernel_rfl) rfl #[.pointer (some ⟨g,0,none⟩),.int .i64 3] rfl (by (try simp only [List.map_toArray,List.map_cons,List.map_nil]);first|done|rfl|(simp only [List.length_drop,List.length_take];rfl)) ?_;(with_reducible refine (spec_l20Rd_pick.calls k2 g s0_0 t257 3 t258 t259 w0 _ ?side1 ?side2 A47.out).mono ?_);(case side1 => repeat (first|(with_reducible first|exact HI0.out|apply IsS54.alloc|apply IsS54.drewN|apply IsS54.drew|apply IsS54.set_1)|exact HI0.out));(case side2 => repeat (first|(with_reducible first|exact HB.out|apply bA|apply bN|apply bD|refine below_set ?_ (IsS54.ge HI0.out))|exact HB.out));rintro e w69 ⟨rfl,hi,hb,hk⟩;refine ⟨_,rfl,?_⟩;have n0_:=Aside0.mk (Kd.R_mono (Kd.R_keep (IsS54.apart (show IsS54 w0 _ g s0_0 t257 from by repeat (first|(with_reducible first|exact HI0.out|apply IsS54.alloc|apply IsS54.drewN|apply IsS54.drew|apply IsS54.set_1)|exact HI0.out)) (by (with_reducible repeat first|apply rA|apply rN|apply rD);exact HO_6.out) (by decide)) hk (fun _ h => h.2)) (fun _ h => h.1));have n1_:=Aside0.mk (KeepBut.trans (by repeat (first|(with_reducible first|exact HK.out|apply KeepBut.set_|apply keep_drewN|apply keep_drew|apply keep_alloc)|exact HK.out)) hk (.inl rfl));have n2_:=Aside0.mk (hb);have n3_:=Aside0.mk (hi);clear HO_6;clear HK;clear HB;clear HI0;have HO_6:=n0_;have HK:=n1_;have HB:=n2_;have HI0:=n3_;clear n0_ n1_ n2_ n3_;(try clear hb);(try clear hb2);(try clear hk);(try clear hi)))
            have n0_ := Aside0.mk (Kd.R_drew HO_6.out)
            have n1_ := Aside0.mk (IsS54.drew HI0.out)
            have n2_ := Aside0.mk (keep_drew HK.out)
            have n3_ := Aside0.mk (below_drew1 HB.out)
            clear HO_6
            clear HI0
            clear HK
            clear HB
            have HO_6 := n0_
            have HI0 := n1_
            have HK := n2_
            have HB := n3_
            clear n0_ n1_ n2_ n3_
            obtain ⟨Ao71, co71, eo71⟩ := kS HO_6.out
            (first|subst eo71|(injection eo71 with f1_ f2_ f3_; have f4_ := f1_.symm; have f5_ := f3_.symm; clear f1_ f2_ f3_; subst f4_; subst f5_))
            have p265 : 0 ≤ (0 : Int) := (by omega)
            have q265 : 0 < (x6_2.length : Int) := oD (by first|(with_reducible assumption)|assumption)
            obtain ⟨ad265, e265, hx265_0⟩ := aI (kR HO_6.out).2.2 0 p265 q265
            cases e265
            have qi265 : (0 < x6_2.length) = True := eq_true (by omega)
            (try rw [show ((0 : Int)).toNat = 0 from rfl] at hx265_0)
            (try rw [Addr.add_zero'] at hx265_0)
            replace p265 := eq_true p265
            replace q265 := eq_true q265
            have p65 : 0 ≤ (0 : Int) := (by omega)
            have q65 : (0 : Int) < ((x6_2.length : Int) : Int) := oD (by first|(with_reducible assumption)|assumption)
            have qi65 : (0 < x6_2.length) = True := eq_true (by omega)
            obtain ⟨go65, co65, eo65, gb65, gl65, cl65, HG65⟩ := Kd.R_form HO_6.out (by omega)
            (first|cases eo65|(injection eo65 with ea_ en_ ec_; (first|subst ea_|(injection ea_ with ea_; subst ea_)); subst ec_; clear en_))
            have GB65 := Aside0.mk gb65
            have GG65 := Aside0.mk HG65
            clear gb65 gl65 HG65
            (first|simp only [add_plain] at hx265_0|skip)
            obtain ⟨hx65_0, hf65_0⟩ := Kd.R_celln 0 HO_6.out (0 : Int) p65 q65
            (try rw [show ((0 : Int)).toNat = 0 from rfl] at hx65_0)
            (try simp only [Nat.reduceMul, Nat.zero_mul, Nat.zero_add, Nat.reduceAdd] at hx65_0)
            (try rw [show ((0 : Int)).toNat = 0 from rfl] at hf65_0)
            (try simp only [Nat.reduceMul, Nat.zero_mul, Nat.zero_add, Nat.reduceAdd] at hf65_0)
            replace p65 := eq_true p65
            replace q65 := eq_true q65
            have HN0_go65 := Aside0.mk (show g ≠ go65 from by have h_ := IsS54.own_ne HI0.out HO_6.out (by decide); intro e_; exact h_ (by rw [e_]; rfl))
            have HP72 := Kd.R_putn HO_6.out (0 : Int) (Go.bits .xor .i64 (rd x6_2 0) (ji64))
            rw [← Ny266.out] at HP72
            have HQ72 := Aside0.mk HP72
            clear HP72
            refine start_ (n := 10) (S := fun w' => w'.cell? ⟨go65, 0, none⟩ = some (.int .i64 (rd x6_2 0))) (ds := [9]) #[false, false, false, false, false, false, false, false, false, false] (by kernel_rfl) rfl rfl (hx265_0) (fun hHeld => ?_); refine with_tabW spec_l20Net.tab19 spec_l20Net.bits19 (fun HT_ HW_ => ?_)
            generalize w69.drew = w70 at HO_6 HI0 HK HB GG65 HQ72 hf65_0 hx265_0 hx65_0 hHeld ⊢
            refine pure_ (i := 0) (N := some 67) (v := ?_) (a' := ?_) #[true, false, false, false, false, false, false, false, false, false] rfl rfl (any_of HT_.out (by kernel_rfl)) (fun _ _ _ h => h) (Or.inl ⟨by rfl, ?_⟩) ?_ ?_
            rotate_left
            ·intro w'
             go_simp
             with_reducible rfl
            rotate_left
            ·simp only [Act.put, lA, lZ, lS, i64_w, i32_w]
             rfl
            refine pure_ (i := 1) (N := some 68) (v := ?_) (a' := ?_) #[true, true, false, false, false, false, false, false, false, false] rfl rfl (any_of HT_.out (by kernel_rfl)) (fun _ _ _ h => h) (Or.inl ⟨by rfl, ?_⟩) ?_ ?_
            rotate_left
            ·intro w'
             go_simp
             with_reducible rfl
            rotate_left
            ·simp only [Act.put, lA, lZ, lS, i64_w, i32_w]
             rfl
            refine pure_ (i := 2) (N := some 69) (v := ?_) (a' := ?_) #[true, true, true, false, false, false, false, false, false, false] rfl rfl (any_of HT_.out (by kernel_rfl)) (fun _ _ _ h => h) (Or.inl ⟨by rfl, ?_⟩) ?_ ?_
            rotate_left
            ·intro w'
             go_simp
             with_reducible rfl
            rotate_left
            ·simp only [Act.put, lA, lZ, lS, i64_w, i32_w]
             rfl
            refine pure_ (i := 4) (N := some 71) (v := ?_) (a' := ?_) #[true, true, true, false, true, false, false, false, false, false] rfl rfl (any_of HT_.out (by kernel_rfl)) (fun _ _ _ h => h) (Or.inl ⟨by rfl, ?_⟩) ?_ ?_
            rotate_left
            ·intro w'
             go_simp
             with_reducible rfl
            rotate_left
            ·simp only [Act.put, lA, lZ, lS, i64_w, i32_w]
             rfl
            refine pure_ (i := 5) (N := some 72) (v := ?_) (a' := ?_) #[true, true, true, false, true, true, false, false, false, false] rfl rfl (any_of HT_.out (by kernel_rfl)) (fun _ _ _ h => h) (Or.inl ⟨by rfl, ?_⟩) ?_ ?_
            rotate_left
            ·intro w'
             go_simp
             with_reducible rfl
            rotate_left
            ·simp only [Act.put, lA, lZ, lS, i64_w, i32_w]
             rfl
            refine pure_ (i := 6) (N := some 73) (v := ?_) (a' := ?_) #[true, true, true, false, true, true, true, false, false, false] rfl rfl (any_of HT_.out (by kernel_rfl)) (fun _ _ _ h => h) (Or.inl ⟨by rfl, ?_⟩) ?_ ?_
            rotate_left
            ·intro w'
             go_simp
             with_reducible rfl
            rotate_left
            ·simp only [Act.put, lA, lZ, lS, i64_w, i32_w]
             rfl
            refine take_ (i := 3) (N := some 70) (v := ?_) (a' := ?_) #[true, true, true, true, true, true, true, false, false, false] rfl rfl (take_ofW HT_.out HW_.out (by kernel_rfl)) (fun _ _ _ h => h) (Or.inl ⟨by rfl, ?_⟩) hHeld ?_ ?_
            rotate_left
            ·intro w' s0
             go_simp
             with_reducible rfl
            rotate_left
            ·simp only [Act.put, lA, lZ, lS, i64_w, i32_w]
             rfl
            refine pure_ (i := 7) (N := some 74) (v := ?_) (a' := ?_) #[true, true, true, true, true, true, true, true, false, false] rfl rfl (any_of HT_.out (by kernel_rfl)) (fun _ _ _ h => h) (Or.inl ⟨by rfl, ?_⟩) ?_ ?_
            rotate_left
            ·intro w'
             go_simp
             with_reducible rfl
            rotate_left
            ·simp only [Act.put, lA, lZ, lS, i64_w, i32_w]
             rfl
            refine pure_ (i := 8) (N := some 75) (v := ?_) (a' := ?_) #[true, true, true, true, true, true, true, true, true, false] rfl rfl (any_of HT_.out (by kernel_rfl)) (fun _ _ _ h => h) (Or.inl ⟨by rfl, ?_⟩) ?_ ?_
            rotate_left
            ·intro w'
             go_simp
             with_reducible rfl
            rotate_left
            ·simp only [Act.put, lA, lZ, lS, i64_w, i32_w]
             rfl
            refine last_ (i := 9) (N := none) #[true, true, true, true, true, true, true, true, true, true] rfl rfl (one_of HT_.out (by kernel_rfl)) (by decide) (fun K hK => ?_)
            refine skip_ (w1 := ?_) (by rfl) rfl ?_ ?_
            rotate_left
            ·go_simp
             rfl
            refine hK.out _ _ ?_
            clear hK K
            refine done_ (done_of HT_.out (by kernel_rfl)) ?_
            have n0_ : Aside0 (Kd.R (Kd.int .i64) 3 (w70.setCell ⟨go65, 0, none⟩ (.int .i64 (Go.bits .xor .i64 (rd x6_2 0) (ji64)))) w.heap.size (fun _ => True) (.slice (some ⟨go65, 0, none⟩) x6_2.length co71) y266) := ⟨by (with_reducible repeat first|apply rA|apply rN|apply rD); exact HQ72.out⟩
            have n1_ : Aside0 (IsS54 w0 (w70.setCell ⟨go65, 0, none⟩ (.int .i64 (Go.bits .xor .i64 (rd x6_2 0) (ji64)))) g s0_0 t259) := ⟨by repeat (first|(with_reducible first|exact HI0.out|apply IsS54.alloc|apply IsS54.drewN|apply IsS54.drew|apply IsS54.set_1|refine IsS54.far ?_ HN0_go65.out _)|exact HI0.out)⟩
            have n2_ : Aside0 (KeepBut w (w70.setCell ⟨go65, 0, none⟩ (.int .i64 (Go.bits .xor .i64 (rd x6_2 0) (ji64)))) g none) := ⟨by repeat (first|(with_reducible first|exact HK.out|apply KeepBut.set_|apply keep_drewN|apply keep_drew|apply keep_alloc|refine keep_far ?_ GB65.out _)|exact HK.out)⟩
            have n3_ : Aside0 (Below w0.heap.size w0 (w70.setCell ⟨go65, 0, none⟩ (.int .i64 (Go.bits .xor .i64 (rd x6_2 0) (ji64))))) := ⟨by repeat (first|(with_reducible first|exact HB.out|apply bA|apply bN|apply bD|refine below_set ?_ (Nat.le_trans HL.out GB65.out)|refine below_set ?_ (IsS54.ge HI0.out))|exact HB.out)⟩
            (try clear HO_6)
            (try clear HI0)
            (try clear HK)
            (try clear HB)
            generalize (w70.setCell ⟨go65, 0, none⟩ (.int .i64 (Go.bits .xor .i64 (rd x6_2 0) (ji64)))) = w73 at n0_ n1_ n2_ n3_ ⊢
            have HO_6 := n0_
            have HI0 := n1_
            have HK := n2_
            have HB := n3_
            clear n0_ n1_ n2_ n3_
            have p67 : 0 ≤ (0 : Int) := (by omega)
            have q67 : (0 : Int) < ((x6_2.length : Int) : Int) := oD (by first|(with_reducible assumption)|assumption)
            replace p67 := eq_true p67
            replace q67 := eq_true q67
            obtain ⟨hy74_, hz74_⟩ := Kd.R_celln 0 HO_6.out (0 : Int) (by omega) (oD (by first|(with_reducible assumption)|assumption))
            (try simp only [Int.reduceToNat, Int.toNat_zero, Int.toNat_ofNat, Nat.reduceMul, Nat.zero_mul, Nat.zero_add] at hy74_ hz74_)
            (try rw [show ((0 : Int)).toNat = 0 from rfl] at hy74_)
            (try rw [show ((0 : Int)).toNat = 0 from rfl] at hz74_)
            have HP74 := Kd.R_putg HO_6.out (0 : Int) (-1)
            try go_wp2_with (first|((with_reducible refine gate_store (t:=3) (p:=79) rfl ?_);refine store_event (t:=3) (p:=79) (v:=?vo_w75) (w1:=(w73.setCell ⟨go65,(0 : Int).toNat,none⟩ (.int .i64 (-1)))) ?hg ?ho ?hn ?hr ?_;(case ho => rfl);(case hg => rfl);(case hn => rfl);(case hr => first|(go_simp;done)|(go_simp;rfl));intro w75 hw;have hg : w73.grownBy w75 (some go65):=(by rw [hw];exact HP74.2);have hp_ : Kd.R (Kd.int .i64) 3 w75 w.heap.size (fun _ => True) (.slice (some ⟨go65,0,none⟩) x6_2.length co71) y267:=(by rw [hw,Ny267.out];exact HP74.1);clear HP74;have n0_:=Aside0.mk (hp_);have n1_:=Aside0.mk (IsS54.grown (by repeat (first|(with_reducible first|exact HI0.out|apply IsS54.alloc|apply IsS54.drewN|apply IsS54.drew|apply IsS54.set_1)|exact HI0.out)) hg (IsS54.own_ne HI0.out HO_6.out (by decide)));have n2_:=Aside0.mk ((by rw [hw];exact below_set (HB.out) (Nat.le_trans HL.out GB65.out) : Below w0.heap.size w0 w75));have n3_:=Aside0.mk (KeepBut.trans (by repeat (first|(with_reducible first|exact HK.out|apply KeepBut.set_|apply keep_drewN|apply keep_drew|apply keep_alloc)|exact HK.out)) (KeepBut.of_grown hg g) (Kd.R_base2 HO_6.out));clear HO_6;clear HI0;clear HB;clear HK;have HO_6:=n0_;have HI0:=n1_;have HB:=n2_;have HK:=n3_;clear n0_ n1_ n2_ n3_;clear hg hw hp_))
            go_ret
            exact ⟨_, by first|rfl|(simp [errW_none, errW_some] <;> rfl)|(simp only [← hji62, ← hji64]; first|rfl|(simp [errW_none, errW_some] <;> rfl))|(simp [*, errW_none, errW_some] <;> rfl), by (with_reducible repeat first|apply rA|apply rN|apply rD); exact HO_6.out, by repeat (first|(with_reducible first|exact HI0.out|apply IsS54.alloc|apply IsS54.drewN|apply IsS54.drew|apply IsS54.set_1)|exact HI0.out), by repeat (first|(with_reducible first|exact HB.out|apply bA|apply bN|apply bD|refine below_set ?_ (IsS54.ge HI0.out))|exact HB.out), by repeat (first|(with_reducible first|exact HK.out|apply KeepBut.set_|apply keep_drewN|apply keep_drew|apply keep_alloc)|exact HK.out)⟩
           ·rw [if_neg c66] at H
            have c66b0 : ((wrap64 (1 + t233)) == 1) = false := beq_eq_false_iff_ne.mpr c66
            (try (have c66b0_w := c66b0; rw [← i64_w] at c66b0_w))
            have c66b1 : ((wrap64 (1 + t233)) != 1) = true := bne_iff_ne.mpr c66
            (try (have c66b1_w := c66b1; rw [← i64_w] at c66b1_w))
            simp only [Option.some.injEq, Prod.mk.injEq] at H
            obtain ⟨rfl, rfl⟩ := H
            try go_wp2_with (first|((with_reducible refine gate_callee (f:=35) rfl ?_);refine goesL_ (some 64) rfl rfl Try.func35 (by kernel_rfl) rfl #[.pointer (some ⟨g,0,none⟩),.int .i64 a1] rfl (by (try simp only [List.map_toArray,List.map_cons,List.map_nil]);first|done|rfl|(simp only [List.length_drop,List.length_take];rfl)) ?_;(with_reducible refine (spec_l20Rd_odd.calls k2 g s0_0 x1001_2 a1 true t257 w0 _ ?side1 ?side2 A45.out).mono ?_);(case side1 => repeat (first|(with_reducible first|exact HI0.out|apply IsS54.alloc|apply IsS54.drewN|apply IsS54.drew|apply IsS54.set_1)|exact HI0.out));(case side2 => repeat (first|(with_reducible first|exact HB.out|apply bA|apply bN|apply bD|refine below_set ?_ (IsS54.ge HI0.out))|exact HB.out));rintro e w76 ⟨rfl,hi,hb,hk⟩;refine ⟨_,rfl,?_⟩;have n0_:=Aside0.mk (Kd.R_mono (Kd.R_keep (IsS54.apart (show IsS54 w0 _ g s0_0 x1001_2 from by repeat (first|(with_reducible first|exact HI0.out|apply IsS54.alloc|apply IsS54.drewN|apply IsS54.drew|apply IsS54.set_1)|exact HI0.out)) (by (with_reducible repeat first|apply rA|apply rN|apply rD);exact HO_6.out) (by decide)) hk (fun _ h => h.2)) (fun _ h => h.1));have n1_:=Aside0.mk (KeepBut.trans (by repeat (first|(with_reducible first|exact HK.out|apply KeepBut.set_|apply keep_drewN|apply keep_drew|apply keep_alloc)|exact HK.out)) hk (.inl rfl));have n2_:=Aside0.mk (hb);have n3_:=Aside0.mk (hi);clear HO_6;clear HK;clear HB;clear HI0;have HO_6:=n0_;have HK:=n1_;have HB:=n2_;have HI0:=n3_;clear n0_ n1_ n2_ n3_;(try clear hb);(try clear hb2);(try clear hk);(try clear hi))|((with_reducible refine gate_callee (f:=31) rfl ?_);refine goesL_ (some 66) rfl rfl Try.func31 (by kernel_rfl) rfl #[.pointer (some ⟨g,0,none⟩),.int .i64 3] rfl (by (try simp only [List.map_toArray,List.map_cons,List.map_nil]);first|done|rfl|(simp only [List.length_drop,List.length_take];rfl)) ?_;(with_reducible refine (spec_l20Rd_pick.calls k2 g s0_0 t257 3 t258 t259 w0 _ ?side1 ?side2 A47.out).mono ?_);(case side1 => repeat (first|(with_reducible first|exact HI0.out|apply IsS54.alloc|apply IsS54.drewN|apply IsS54.drew|apply IsS54.set_1)|exact HI0.out));(case side2 => repeat (first|(with_reducible first|exact HB.out|apply bA|apply bN|apply bD|refine below_set ?_ (IsS54.ge HI0.out))|exact HB.out));rintro e w77 ⟨rfl,hi,hb,hk⟩;refine ⟨_,rfl,?_⟩;have n0_:=Aside0.mk (Kd.R_mono (Kd.R_keep (IsS54.apart (show IsS54 w0 _ g s0_0 t257 from by repeat (first|(with_reducible first|exact HI0.out|apply IsS54.alloc|apply IsS54.drewN|apply IsS54.drew|apply IsS54.set_1)|exact HI0.out)) (by (with_reducible repeat first|apply rA|apply rN|apply rD);exact HO_6.out) (by decide)) hk (fun _ h => h.2)) (fun _ h => h.1));have n1_:=Aside0.mk (KeepBut.trans (by repeat (first|(with_reducible first|exact HK.out|apply KeepBut.set_|apply keep_drewN|apply keep_drew|apply keep_alloc)|exact HK.out)) hk (.inl rfl));have n2_:=Aside0.mk (hb);have n3_:=Aside0.mk (hi);clear HO_6;clear HK;clear HB;clear HI0;have HO_6:=n0_;have HK:=n1_;have HB:=n2_;have HI0:=n3_;clear n0_ n1_ n2_ n3_;(try clear hb);(try clear hb2);(try clear hk);(try clear hi)))
            have n0_ := Aside0.mk (Kd.R_drew HO_6.out)
            have n1_ := Aside0.mk (IsS54.drew HI0.out)
            have n2_ := Aside0.mk (keep_drew HK.out)
            have n3_ := Aside0.mk (below_drew1 HB.out)
            clear HO_6
            clear HI0
            clear HK
            clear HB
            have HO_6 := n0_
            have HI0 := n1_
            have HK := n2_
            have HB := n3_
            clear n0_ n1_ n2_ n3_
            obtain ⟨Ao79, co79, eo79⟩ := kS HO_6.out
            (first|subst eo79|(injection eo79 with f1_ f2_ f3_; have f4_ := f1_.symm; have f5_ := f3_.symm; clear f1_ f2_ f3_; subst f4_; subst f5_))
            have p265 : 0 ≤ (0 : Int) := (by omega)
            have q265 : 0 < (x6_2.length : Int) := oD (by first|(with_reducible assumption)|assumption)
            obtain ⟨ad265, e265, hx265_0⟩ := aI (kR HO_6.out).2.2 0 p265 q265
            cases e265
            have qi265 : (0 < x6_2.length) = True := eq_true (by omega)
            (try rw [show ((0 : Int)).toNat = 0 from rfl] at hx265_0)
            (try rw [Addr.add_zero'] at hx265_0)
            replace p265 := eq_true p265
            replace q265 := eq_true q265
            have p65 : 0 ≤ (0 : Int) := (by omega)
            have q65 : (0 : Int) < ((x6_2.length : Int) : Int) := oD (by first|(with_reducible assumption)|assumption)
            have qi65 : (0 < x6_2.length) = True := eq_true (by omega)
            obtain ⟨go65, co65, eo65, gb65, gl65, cl65, HG65⟩ := Kd.R_form HO_6.out (by omega)
            (first|cases eo65|(injection eo65 with ea_ en_ ec_; (first|subst ea_|(injection ea_ with ea_; subst ea_)); subst ec_; clear en_))
            have GB65 := Aside0.mk gb65
            have GG65 := Aside0.mk HG65
            clear gb65 gl65 HG65
            (first|simp only [add_plain] at hx265_0|skip)
            obtain ⟨hx65_0, hf65_0⟩ := Kd.R_celln 0 HO_6.out (0 : Int) p65 q65
            (try rw [show ((0 : Int)).toNat = 0 from rfl] at hx65_0)
            (try simp only [Nat.reduceMul, Nat.zero_mul, Nat.zero_add, Nat.reduceAdd] at hx65_0)
            (try rw [show ((0 : Int)).toNat = 0 from rfl] at hf65_0)
            (try simp only [Nat.reduceMul, Nat.zero_mul, Nat.zero_add, Nat.reduceAdd] at hf65_0)
            replace p65 := eq_true p65
            replace q65 := eq_true q65
            have HN0_go65 := Aside0.mk (show g ≠ go65 from by have h_ := IsS54.own_ne HI0.out HO_6.out (by decide); intro e_; exact h_ (by rw [e_]; rfl))
            have HP80 := Kd.R_putn HO_6.out (0 : Int) (Go.bits .xor .i64 (rd x6_2 0) (ji64))
            rw [← Ny266.out] at HP80
            have HQ80 := Aside0.mk HP80
            clear HP80
            refine start_ (n := 10) (S := fun w' => w'.cell? ⟨go65, 0, none⟩ = some (.int .i64 (rd x6_2 0))) (ds := [9]) #[false, false, false, false, false, false, false, false, false, false] (by kernel_rfl) rfl rfl (hx265_0) (fun hHeld => ?_); refine with_tabW spec_l20Net.tab19 spec_l20Net.bits19 (fun HT_ HW_ => ?_)
            generalize w77.drew = w78 at HO_6 HI0 HK HB GG65 HQ80 hf65_0 hx265_0 hx65_0 hHeld ⊢
            refine pure_ (i := 0) (N := some 67) (v := ?_) (a' := ?_) #[true, false, false, false, false, false, false, false, false, false] rfl rfl (any_of HT_.out (by kernel_rfl)) (fun _ _ _ h => h) (Or.inl ⟨by rfl, ?_⟩) ?_ ?_
            rotate_left
            ·intro w'
             go_simp
             with_reducible rfl
            rotate_left
            ·simp only [Act.put, lA, lZ, lS, i64_w, i32_w]
             rfl
            refine pure_ (i := 1) (N := some 68) (v := ?_) (a' := ?_) #[true, true, false, false, false, false, false, false, false, false] rfl rfl (any_of HT_.out (by kernel_rfl)) (fun _ _ _ h => h) (Or.inl ⟨by rfl, ?_⟩) ?_ ?_
            rotate_left
            ·intro w'
             go_simp
             with_reducible rfl
            rotate_left
            ·simp only [Act.put, lA, lZ, lS, i64_w, i32_w]
             rfl
            refine pure_ (i := 2) (N := some 69) (v := ?_) (a' := ?_) #[true, true, true, false, false, false, false, false, false, false] rfl rfl (any_of HT_.out (by kernel_rfl)) (fun _ _ _ h => h) (Or.inl ⟨by rfl, ?_⟩) ?_ ?_
            rotate_left
            ·intro w'
             go_simp
             with_reducible rfl
            rotate_left
            ·simp only [Act.put, lA, lZ, lS, i64_w, i32_w]
             rfl
            refine pure_ (i := 4) (N := some 71) (v := ?_) (a' := ?_) #[true, true, true, false, true, false, false, false, false, false] rfl rfl (any_of HT_.out (by kernel_rfl)) (fun _ _ _ h => h) (Or.inl ⟨by rfl, ?_⟩) ?_ ?_
            rotate_left
            ·intro w'
             go_simp
             with_reducible rfl
            rotate_left
            ·simp only [Act.put, lA, lZ, lS, i64_w, i32_w]
             rfl
            refine pure_ (i := 5) (N := some 72) (v := ?_) (a' := ?_) #[true, true, true, false, true, true, false, false, false, false] rfl rfl (any_of HT_.out (by kernel_rfl)) (fun _ _ _ h => h) (Or.inl ⟨by rfl, ?_⟩) ?_ ?_
            rotate_left
            ·intro w'
             go_simp
             with_reducible rfl
            rotate_left
            ·simp only [Act.put, lA, lZ, lS, i64_w, i32_w]
             rfl
            refine pure_ (i := 6) (N := some 73) (v := ?_) (a' := ?_) #[true, true, true, false, true, true, true, false, false, false] rfl rfl (any_of HT_.out (by kernel_rfl)) (fun _ _ _ h => h) (Or.inl ⟨by rfl, ?_⟩) ?_ ?_
            rotate_left
            ·intro w'
             go_simp
             with_reducible rfl
            rotate_left
            ·simp only [Act.put, lA, lZ, lS, i64_w, i32_w]
             rfl
            refine take_ (i := 3) (N := some 70) (v := ?_) (a' := ?_) #[true, true, true, true, true, true, true, false, false, false] rfl rfl (take_ofW HT_.out HW_.out (by kernel_rfl)) (fun _ _ _ h => h) (Or.inl ⟨by rfl, ?_⟩) hHeld ?_ ?_
            rotate_left
            ·intro w' s0
             go_simp
             with_reducible rfl
            rotate_left
            ·simp only [Act.put, lA, lZ, lS, i64_w, i32_w]
             rfl
            refine pure_ (i := 7) (N := some 74) (v := ?_) (a' := ?_) #[true, true, true, true, true, true, true, true, false, false] rfl rfl (any_of HT_.out (by kernel_rfl)) (fun _ _ _ h => h) (Or.inl ⟨by rfl, ?_⟩) ?_ ?_
            rotate_left
            ·intro w'
             go_simp
             with_reducible rfl
            rotate_left
            ·simp only [Act.put, lA, lZ, lS, i64_w, i32_w]
             rfl
            refine pure_ (i := 8) (N := some 75) (v := ?_) (a' := ?_) #[true, true, true, true, true, true, true, true, true, false] rfl rfl (any_of HT_.out (by kernel_rfl)) (fun _ _ _ h => h) (Or.inl ⟨by rfl, ?_⟩) ?_ ?_
            rotate_left
            ·intro w'
             go_simp
             with_reducible rfl
            rotate_left
            ·simp only [Act.put, lA, lZ, lS, i64_w, i32_w]
             rfl
            refine last_ (i := 9) (N := none) #[true, true, true, true, true, true, true, true, true, true] rfl rfl (one_of HT_.out (by kernel_rfl)) (by decide) (fun K hK => ?_)
            refine skip_ (w1 := ?_) (by rfl) rfl ?_ ?_
            rotate_left
            ·go_simp
             rfl
            refine hK.out _ _ ?_
            clear hK K
            refine done_ (done_of HT_.out (by kernel_rfl)) ?_
            try go_wp2
            go_ret
            exact ⟨_, by first|rfl|(simp [errW_none, errW_some] <;> rfl)|(simp only [← hji62, ← hji64]; first|rfl|(simp [errW_none, errW_some] <;> rfl))|(simp [*, errW_none, errW_some] <;> rfl), by (with_reducible repeat first|apply rA|apply rN|apply rD); exact HQ80.out, by repeat (first|(with_reducible first|exact HI0.out|apply IsS54.alloc|apply IsS54.drewN|apply IsS54.drew|apply IsS54.set_1|refine IsS54.far ?_ HN0_go65.out _)|exact HI0.out), by repeat (first|(with_reducible first|exact HB.out|apply bA|apply bN|apply bD|refine below_set ?_ (Nat.le_trans HL.out GB65.out)|refine below_set ?_ (IsS54.ge HI0.out))|exact HB.out), by repeat (first|(with_reducible first|exact HK.out|apply KeepBut.set_|apply keep_drewN|apply keep_drew|apply keep_alloc|refine keep_far ?_ GB65.out _)|exact HK.out)⟩
          ·rw [if_neg c63] at H
           exact absurd H (by simp)
         ·rw [if_neg c61] at H
          exact absurd H (by simp)
      ·replace c46 := Bool.eq_false_iff.mpr c46
       subst c46
       have H1 : (some (x6_2, t257)) = some (r1, r2) := by rw [if_neg (show ¬ (false = true) by decide)] at H; exact H
       clear H
       have H := H1
       clear H1
       simp only [Option.some.injEq, Prod.mk.injEq] at H
       obtain ⟨rfl, rfl⟩ := H
       go_wp2_with (first|((with_reducible refine gate_callee (f:=35) rfl ?_);refine goesL_ (some 64) rfl rfl Try.func35 (by kernel_rfl) rfl #[.pointer (some ⟨g,0,none⟩),.int .i64 a1] rfl (by (try simp only [List.map_toArray,List.map_cons,List.map_nil]);first|done|rfl|(simp only [List.length_drop,List.length_take];rfl)) ?_;(with_reducible refine (spec_l20Rd_odd.calls k2 g s0_0 x1001_2 a1 false t257 w0 _ ?side1 ?side2 A45.out).mono ?_);(case side1 => repeat (first|(with_reducible first|exact HI0.out|apply IsS54.alloc|apply IsS54.drewN|apply IsS54.drew|apply IsS54.set_1)|exact HI0.out));(case side2 => repeat (first|(with_reducible first|exact HB.out|apply bA|apply bN|apply bD|refine below_set ?_ (IsS54.ge HI0.out))|exact HB.out));rintro e w81 ⟨rfl,hi,hb,hk⟩;refine ⟨_,rfl,?_⟩;have n0_:=Aside0.mk (Kd.R_mono (Kd.R_keep (IsS54.apart (show IsS54 w0 _ g s0_0 x1001_2 from by repeat (first|(with_reducible first|exact HI0.out|apply IsS54.alloc|apply IsS54.drewN|apply IsS54.drew|apply IsS54.set_1)|exact HI0.out)) (by (with_reducible repeat first|apply rA|apply rN|apply rD);exact HO_6.out) (by decide)) hk (fun _ h => h.2)) (fun _ h => h.1));have n1_:=Aside0.mk (KeepBut.trans (by repeat (first|(with_reducible first|exact HK.out|apply KeepBut.set_|apply keep_drewN|apply keep_drew|apply keep_alloc)|exact HK.out)) hk (.inl rfl));have n2_:=Aside0.mk (hb);have n3_:=Aside0.mk (hi);clear HO_6;clear HK;clear HB;clear HI0;have HO_6:=n0_;have HK:=n1_;have HB:=n2_;have HI0:=n3_;clear n0_ n1_ n2_ n3_;(try clear hb);(try clear hb2);(try clear hk);(try clear hi)))
       go_ret
       exact ⟨_, by first|rfl|(simp [errW_none, errW_some] <;> rfl)|(simp [*, errW_none, errW_some] <;> rfl), by (with_reducible repeat first|apply rA|apply rN|apply rD); exact HO_6.out, by repeat (first|(with_reducible first|exact HI0.out|apply IsS54.alloc|apply IsS54.drewN|apply IsS54.drew|apply IsS54.set_1)|exact HI0.out), by repeat (first|(with_reducible first|exact HB.out|apply bA|apply bN|apply bD|refine below_set ?_ (IsS54.ge HI0.out))|exact HB.out), by repeat (first|(with_reducible first|exact HK.out|apply KeepBut.set_|apply keep_drewN|apply keep_drew|apply keep_alloc)|exact HK.out)⟩

end Go.Proofs.Ytkofidpgbmajdaa.PFnBestTour
