-- Written by a program of this session (the kit's print, changed).
import Derived.Test.YtcjjiajcjooccaaSq
import Derived.Test.YtcjjiajcjooccaaPFnClimbRoundx0
import Derived.Test.YtcjjiajcjooccaaPFnClimbRoundx1
import Derived.Test.YtcjjiajcjooccaaPFnClimbRoundx2
namespace Go.Proofs.Ytcjjiajcjooccaa.PFnClimbRound
open Go.RowKit Go.Proofs.YtcjjiajcjooccaaW.PrintWords Go.Proofs.YtcjjiajcjooccaaW.PrintLast Go.Proofs.YtcjjiajcjooccaaW.PrintMore
attribute [local go_sem] max2_int min2_int max_two min_two max_three min_three max_four min_four   -- for this text's walks alone
set_option linter.unusedVariables false
set_option linter.unusedSimpArgs false

/-! ### spec_l20Net: function 62 -/
mutual
def spec_l20Net.j0 : Nat → Int → Int → List Int → List Int → Int → Option (List Int × Int)
 | 0, _, _, _, _, _ => none
 | k + 1, x1, x5, x6, x1000, x1001 => (spec_l20Rd_pick.f k x1000 x1001 6).bind fun bt145 => (spec_l20Net.l0 k x1 x5 x6 bt145.1 x1000 bt145.2)
def spec_l20Net.l0 : Nat → Int → Int → List Int → Int → List Int → Int → Option (List Int × Int)
 | 0, _, _, _, _, _, _ => none
 | k + 1, x1, x5, x6, x7, x1000, x1001 => if x7 > 0 then ((spec_l20Rd_pick.f k x1000 x1001 x5).bind fun bt147 => ((spec_l20Rd_pick.f k x1000 bt147.2 x5).bind fun bt149 => (if bt147.1 = bt149.1 then (spec_l20Net.l0 k x1 x5 x6 (wrap64 (x7 - 1)) x1000 bt149.2) else (if 0 ≤ bt147.1 then (if bt147.1 < (x6.length : Int) then (if 0 ≤ bt149.1 then ((some (x6.set (bt147.1 : Int).toNat (Go.bits .or .i64 (rd x6 bt147.1) (shl .i64 1 bt149.1)) : List Int)).bind fun y152 => (if bt149.1 < (x6.length : Int) then (spec_l20Net.l0 k x1 x5 (y152.set (bt149.1 : Int).toNat (Go.bits .or .i64 (rd y152 bt149.1) (shl .i64 1 bt147.1))) (wrap64 (x7 - 1)) x1000 bt149.2) else (none))) else (none)) else (none)) else (none))))) else ((spec_l20Rd_odd.f k x1000 x1001 x1).bind fun bt155 => (if bt155.1 = true then ((spec_l20Rd_pick.f k x1000 bt155.2 3).bind fun bt157 => (if bt157.1 = 0 then (some ((([] : List Int)), bt157.2)) else (if bt157.1 = 1 then (if 0 < (x6.length : Int) then (some ((x6.set (0 : Int).toNat (Go.bits .or .i64 (rd x6 0) 1)), bt157.2)) else (none)) else (if 0 < (x6.length : Int) then (if 0 ≤ (wrap64 (x5 - 1)) then ((some (x6.set (0 : Int).toNat (Go.bits .xor .i64 (rd x6 0) (shl .i64 1 (wrap64 (x5 - 1)))) : List Int)).bind fun y165 => (if x5 = 1 then (some ((y165.set (0 : Int).toNat (-1)), bt157.2)) else (some (y165, bt157.2)))) else (none)) else (none))))) else (some (x6, bt155.2))))
end
def spec_l20Net.f (k : Nat) (s0_0 : List Int) (s0_1 : Int) (a1 : Int) : Option (List Int × Int) := (spec_l20Rd_pick.f k s0_0 s0_1 6).bind fun bt132 => ((spec_PathNet.f k (wrap64 (1 + bt132.1))).bind fun t134 => ((spec_l20Rd_pick.f k s0_0 bt132.2 4).bind fun bt137 => (if bt137.1 = 0 then (if (wrap64 (1 + bt132.1)) ≥ 3 then ((spec_RingNet.f k (wrap64 (1 + bt132.1))).bind fun t139 => (spec_l20Net.j0 k a1 (wrap64 (1 + bt132.1)) t139 s0_0 bt137.2)) else (spec_l20Net.j0 k a1 (wrap64 (1 + bt132.1)) t134 s0_0 bt137.2)) else (if bt137.1 = 1 then (if 0 ≤ (wrap64 (1 + bt132.1)) then (if (wrap64 (1 + bt132.1) : Int).toNat ≤ 35184372088832 then (spec_l20Net.j0 k a1 (wrap64 (1 + bt132.1)) (List.replicate (wrap64 (1 + bt132.1) : Int).toNat 0) s0_0 bt137.2) else (none)) else (none)) else (spec_l20Net.j0 k a1 (wrap64 (1 + bt132.1)) t134 s0_0 bt137.2)))))
theorem spec_l20Net.mono_l : ∀ k, (∀ y0 y1 y2 y3 y4, LeO (spec_l20Net.j0 k y0 y1 y2 y3 y4) (spec_l20Net.j0 (k + 1) y0 y1 y2 y3 y4)) ∧ (∀ y0 y1 y2 y3 y4 y5, LeO (spec_l20Net.l0 k y0 y1 y2 y3 y4 y5) (spec_l20Net.l0 (k + 1) y0 y1 y2 y3 y4 y5))
 | 0 => ⟨fun _ _ _ _ _ r h => by simp [spec_l20Net.j0] at h, fun _ _ _ _ _ _ r h => by simp [spec_l20Net.l0] at h⟩
 | k + 1 => by
  obtain ⟨ih0, ih1⟩ := spec_l20Net.mono_l k
  refine ⟨?_, ?_⟩
  ·intro y0 y1 y2 y3 y4
   unfold spec_l20Net.j0
   repeat' first|(with_reducible first|exact ih0 _ _ _ _ _|exact ih1 _ _ _ _ _ _|exact spec_PathNet.mono _ _|exact spec_RingNet.mono _ _|exact spec_l20Rd_odd.mono _ _ _ _|exact spec_l20Rd_pick.mono _ _ _ _|exact LeO.refl _|exact LeO.none _|refine LeO.ite ?_ ?_|refine LeO.bind ?_ (fun _ => ?_))|exact ih0 _ _ _ _ _|exact ih1 _ _ _ _ _ _|exact spec_PathNet.mono _ _|exact spec_RingNet.mono _ _|exact spec_l20Rd_odd.mono _ _ _ _|exact spec_l20Rd_pick.mono _ _ _ _|exact LeO.none _|refine LeO.ite ?_ ?_|refine LeO.bind ?_ (fun _ => ?_)
  ·intro y0 y1 y2 y3 y4 y5
   unfold spec_l20Net.l0
   repeat' first|(with_reducible first|exact ih0 _ _ _ _ _|exact ih1 _ _ _ _ _ _|exact spec_PathNet.mono _ _|exact spec_RingNet.mono _ _|exact spec_l20Rd_odd.mono _ _ _ _|exact spec_l20Rd_pick.mono _ _ _ _|exact LeO.refl _|exact LeO.none _|refine LeO.ite ?_ ?_|refine LeO.bind ?_ (fun _ => ?_))|exact ih0 _ _ _ _ _|exact ih1 _ _ _ _ _ _|exact spec_PathNet.mono _ _|exact spec_RingNet.mono _ _|exact spec_l20Rd_odd.mono _ _ _ _|exact spec_l20Rd_pick.mono _ _ _ _|exact LeO.none _|refine LeO.ite ?_ ?_|refine LeO.bind ?_ (fun _ => ?_)
theorem spec_l20Net.mono : ∀ a0 a1 a2 k, LeO (spec_l20Net.f k a0 a1 a2) (spec_l20Net.f (k + 1) a0 a1 a2) := by
 intro a0 a1 a2 k
 obtain ⟨ih0, ih1⟩ := spec_l20Net.mono_l k
 unfold spec_l20Net.f
 repeat' first|(with_reducible first|exact ih0 _ _ _ _ _|exact ih1 _ _ _ _ _ _|exact spec_PathNet.mono _ _|exact spec_RingNet.mono _ _|exact spec_l20Rd_odd.mono _ _ _ _|exact spec_l20Rd_pick.mono _ _ _ _|exact LeO.refl _|exact LeO.none _|refine LeO.ite ?_ ?_|refine LeO.bind ?_ (fun _ => ?_))|exact ih0 _ _ _ _ _|exact ih1 _ _ _ _ _ _|exact spec_PathNet.mono _ _|exact spec_RingNet.mono _ _|exact spec_l20Rd_odd.mono _ _ _ _|exact spec_l20Rd_pick.mono _ _ _ _|exact LeO.none _|refine LeO.ite ?_ ?_|refine LeO.bind ?_ (fun _ => ?_)
def spec_l20Net.T15 : Bool × List (List Nat × List Nat) := (true, [([], []), ([], []), ([], []), ([], []), ([2, 3], [2, 3]), ([4], [4]), ([], []), ([6], [6]), ([5, 7], [5, 7]), ([0, 1, 0, 1, 2, 3, 4, 5, 6, 7, 8], [0, 1]), ([9, 8, 0, 1, 2, 3, 4, 5, 6, 7, 8], [8, 9])])
def spec_l20Net.B15 : List Nat := [0, 0, 0, 0, 12, 28, 0, 64, 252, 511, 1023]
theorem spec_l20Net.tab15 : rtab .any (opsOf Try.f62 15) = spec_l20Net.T15 := by kernel_rfl
theorem spec_l20Net.bits15 : waitsOk spec_l20Net.T15.2 spec_l20Net.B15 = true := by kernel_rfl
def spec_l20Net.T16 : Bool × List (List Nat × List Nat) := (true, [([], []), ([], []), ([], []), ([], []), ([2, 3], [2, 3]), ([4], [4]), ([], []), ([6], [6]), ([5, 7], [5, 7]), ([0, 1, 0, 1, 2, 3, 4, 5, 6, 7, 8], [0, 1]), ([9, 8, 0, 1, 2, 3, 4, 5, 6, 7, 8], [8, 9])])
def spec_l20Net.B16 : List Nat := [0, 0, 0, 0, 12, 28, 0, 64, 252, 511, 1023]
theorem spec_l20Net.tab16 : rtab .any (opsOf Try.f62 16) = spec_l20Net.T16 := by kernel_rfl
theorem spec_l20Net.bits16 : waitsOk spec_l20Net.T16.2 spec_l20Net.B16 = true := by kernel_rfl
def spec_l20Net.T19 : Bool × List (List Nat × List Nat) := (true, [([], []), ([], []), ([1], [1]), ([2], [2]), ([], []), ([4], [4]), ([5], [5]), ([3, 6], [3, 6]), ([0, 0, 1, 2, 3, 4, 5, 6, 7], [0]), ([8, 7, 0, 1, 2, 3, 4, 5, 6, 7], [7, 8])])
def spec_l20Net.B19 : List Nat := [0, 0, 2, 6, 0, 16, 48, 126, 255, 511]
theorem spec_l20Net.tab19 : rtab .any (opsOf Try.f62 19) = spec_l20Net.T19 := by kernel_rfl
theorem spec_l20Net.bits19 : waitsOk spec_l20Net.T19.2 spec_l20Net.B19 = true := by kernel_rfl
set_option maxHeartbeats 8000000 in
set_option maxRecDepth 100000 in
theorem spec_l20Net.calls (k : Nat) (g : Nat) (s0_0 : List Int) (s0_1 : Int) (a1 : Int) (r1 : List Int) (r2 : Int) (w0 w : World) (hI : IsS60 w0 w g s0_0 s0_1) (hB : Below w0.heap.size w0 w) (h : spec_l20Net.f k s0_0 s0_1 a1 = some (r1, r2)) :
  Calls Try.prog 62 #[.pointer (some ⟨g, 0, none⟩), .int .i64 a1] w fun e w' => ∃ v0_ : Value, e = .returned (v0_) ∧ Kd.R (Kd.int .i64) 3 w' w.heap.size (fun _ => True) v0_ r1 ∧ IsS60 w0 w' g s0_0 r2 ∧ Below w0.heap.size w0 w' ∧ KeepBut w w' g none := by
 have HI0 := Aside0.mk hI
 have HK := Aside0.mk (KeepBut.refl w g none)
 have HL := Aside0.mk hB.size
 clear hI
 have HW0 := Aside0.mk hB.size
 have HB := Aside0.mk hB
 clear hB
 have H : ((spec_l20Rd_pick.f k s0_0 s0_1 6).bind fun bt132 => ((spec_PathNet.f k (wrap64 (1 + bt132.1))).bind fun t134 => ((spec_l20Rd_pick.f k s0_0 bt132.2 4).bind fun bt137 => (if bt137.1 = 0 then (if (wrap64 (1 + bt132.1)) ≥ 3 then ((spec_RingNet.f k (wrap64 (1 + bt132.1))).bind fun t139 => (spec_l20Net.j0 k a1 (wrap64 (1 + bt132.1)) t139 s0_0 bt137.2)) else (spec_l20Net.j0 k a1 (wrap64 (1 + bt132.1)) t134 s0_0 bt137.2)) else (if bt137.1 = 1 then (if 0 ≤ (wrap64 (1 + bt132.1)) then (if (wrap64 (1 + bt132.1) : Int).toNat ≤ 35184372088832 then (spec_l20Net.j0 k a1 (wrap64 (1 + bt132.1)) (List.replicate (wrap64 (1 + bt132.1) : Int).toNat 0) s0_0 bt137.2) else (none)) else (none)) else (spec_l20Net.j0 k a1 (wrap64 (1 + bt132.1)) t134 s0_0 bt137.2)))))) = some (r1, r2) := h
 clear h
 replace H := Option.bind_eq_some_iff.mp H
 obtain ⟨⟨t132, t133⟩, A30, H⟩ := H
 replace H : ((spec_PathNet.f k (wrap64 (1 + t132))).bind fun t134 => ((spec_l20Rd_pick.f k s0_0 t133 4).bind fun bt137 => (if bt137.1 = 0 then (if (wrap64 (1 + t132)) ≥ 3 then ((spec_RingNet.f k (wrap64 (1 + t132))).bind fun t139 => (spec_l20Net.j0 k a1 (wrap64 (1 + t132)) t139 s0_0 bt137.2)) else (spec_l20Net.j0 k a1 (wrap64 (1 + t132)) t134 s0_0 bt137.2)) else (if bt137.1 = 1 then (if 0 ≤ (wrap64 (1 + t132)) then (if (wrap64 (1 + t132) : Int).toNat ≤ 35184372088832 then (spec_l20Net.j0 k a1 (wrap64 (1 + t132)) (List.replicate (wrap64 (1 + t132) : Int).toNat 0) s0_0 bt137.2) else (none)) else (none)) else (spec_l20Net.j0 k a1 (wrap64 (1 + t132)) t134 s0_0 bt137.2))))) = some (r1, r2) := H
 have A3 := Aside0.mk A30
 clear A30
 replace H := Option.bind_eq_some_iff.mp H
 obtain ⟨t134, A40, H⟩ := H
 replace H : ((spec_l20Rd_pick.f k s0_0 t133 4).bind fun bt137 => (if bt137.1 = 0 then (if (wrap64 (1 + t132)) ≥ 3 then ((spec_RingNet.f k (wrap64 (1 + t132))).bind fun t139 => (spec_l20Net.j0 k a1 (wrap64 (1 + t132)) t139 s0_0 bt137.2)) else (spec_l20Net.j0 k a1 (wrap64 (1 + t132)) t134 s0_0 bt137.2)) else (if bt137.1 = 1 then (if 0 ≤ (wrap64 (1 + t132)) then (if (wrap64 (1 + t132) : Int).toNat ≤ 35184372088832 then (spec_l20Net.j0 k a1 (wrap64 (1 + t132)) (List.replicate (wrap64 (1 + t132) : Int).toNat 0) s0_0 bt137.2) else (none)) else (none)) else (spec_l20Net.j0 k a1 (wrap64 (1 + t132)) t134 s0_0 bt137.2)))) = some (r1, r2) := H
 have A4 := Aside0.mk A40
 clear A40
 replace H := Option.bind_eq_some_iff.mp H
 obtain ⟨⟨t137, t138⟩, A50, H⟩ := H
 replace H : (if t137 = 0 then (if (wrap64 (1 + t132)) ≥ 3 then ((spec_RingNet.f k (wrap64 (1 + t132))).bind fun t139 => (spec_l20Net.j0 k a1 (wrap64 (1 + t132)) t139 s0_0 t138)) else (spec_l20Net.j0 k a1 (wrap64 (1 + t132)) t134 s0_0 t138)) else (if t137 = 1 then (if 0 ≤ (wrap64 (1 + t132)) then (if (wrap64 (1 + t132) : Int).toNat ≤ 35184372088832 then (spec_l20Net.j0 k a1 (wrap64 (1 + t132)) (List.replicate (wrap64 (1 + t132) : Int).toNat 0) s0_0 t138) else (none)) else (none)) else (spec_l20Net.j0 k a1 (wrap64 (1 + t132)) t134 s0_0 t138))) = some (r1, r2) := H
 have A5 := Aside0.mk A50
 clear A50
 have HC6 := Aside0.mk H
 clear H
 go_enter Try.func62, Try.ntmps62
 go_upto_block 0 with (first|((with_reducible refine gate_callee (f := 52) rfl ?_); refine goesL_ (some 11) rfl rfl Try.func52 (by kernel_rfl) rfl #[.pointer (some ⟨g, 0, none⟩), .int .i64 6] rfl (by (try simp only [List.map_toArray, List.map_cons, List.map_nil]); first|done|rfl|(simp only [List.length_drop, List.length_take]; rfl)) ?_; (with_reducible refine (spec_l20Rd_pick.calls k g s0_0 s0_1 6 t132 t133 w0 _ ?side1 ?side2 A3.out).mono ?_); (case side1 => repeat (first|(with_reducible first|exact HI0.out|apply IsS60.alloc|apply IsS60.drewN|apply IsS60.drew|apply IsS60.set_1)|exact HI0.out)); (case side2 => repeat (first|(with_reducible first|exact HB.out|apply bA|apply bN|apply bD|refine below_set ?_ (IsS60.ge HI0.out))|exact HB.out)); rintro e w7 ⟨rfl, hi, hb, hk⟩; refine ⟨_, rfl, ?_⟩; have n0_ := Aside0.mk (KeepBut.trans (by repeat (first|(with_reducible first|exact HK.out|apply KeepBut.set_|apply keep_drewN|apply keep_drew|apply keep_alloc)|exact HK.out)) hk (.inl rfl)); have n1_ := Aside0.mk (hb); have n2_ := Aside0.mk (hi); clear HK; clear HB; clear HI0; have HK := n0_; have HB := n1_; have HI0 := n2_; clear n0_ n1_ n2_; (try clear hb); (try clear hb2); (try clear hk); (try clear hi))|((with_reducible refine gate_callee (f := 66) rfl ?_); refine goesL_ (some 14) rfl rfl Try.func66 (by kernel_rfl) rfl #[.int .i64 (wrap64 (1 + t132))] rfl (by (try simp only [List.map_toArray, List.map_cons, List.map_nil]); first|done|rfl|(simp only [List.length_drop, List.length_take]; rfl)) ?_; (with_reducible refine (spec_PathNet.calls k (wrap64 (1 + t132)) t134 _ A4.out).mono ?_); rintro e w8 ⟨v135, rfl, ho0, hb⟩; refine ⟨_, rfl, ?_⟩; have n0_ := Aside0.mk (Kd.R_lower ho0 (keep_size (w := w) (g := g) (row := none) (by repeat (first|(with_reducible first|exact HK.out|apply KeepBut.set_|apply keep_drewN|apply keep_drew|apply keep_alloc)|exact HK.out)))); have n1_ := Aside0.mk (IsS60.below (by repeat (first|(with_reducible first|exact HI0.out|apply IsS60.alloc|apply IsS60.drewN|apply IsS60.drew|apply IsS60.set_1)|exact HI0.out)) hb); have n2_ := Aside0.mk (KeepBut.trans (by repeat (first|(with_reducible first|exact HK.out|apply KeepBut.set_|apply keep_drewN|apply keep_drew|apply keep_alloc)|exact HK.out)) (KeepBut.of_below hb g none) (.inl rfl)); have n3_ := Aside0.mk (bT (by repeat (first|(with_reducible first|exact HB.out|apply bA|apply bN|apply bD|refine below_set ?_ (IsS60.ge HI0.out))|exact HB.out)) hb); clear HI0; clear HK; clear HB; have HO136 := n0_; have HI0 := n1_; have HK := n2_; have HB := n3_; clear n0_ n1_ n2_ n3_; (try clear hb); (try clear hb2); (try clear hk); (try clear hi); (try clear ho0))|((with_reducible refine gate_callee (f := 52) rfl ?_); refine goesL_ (some 16) rfl rfl Try.func52 (by kernel_rfl) rfl #[.pointer (some ⟨g, 0, none⟩), .int .i64 4] rfl (by (try simp only [List.map_toArray, List.map_cons, List.map_nil]); first|done|rfl|(simp only [List.length_drop, List.length_take]; rfl)) ?_; (with_reducible refine (spec_l20Rd_pick.calls k g s0_0 t133 4 t137 t138 w0 _ ?side1 ?side2 A5.out).mono ?_); (case side1 => repeat (first|(with_reducible first|exact HI0.out|apply IsS60.alloc|apply IsS60.drewN|apply IsS60.drew|apply IsS60.set_1)|exact HI0.out)); (case side2 => repeat (first|(with_reducible first|exact HB.out|apply bA|apply bN|apply bD|refine below_set ?_ (IsS60.ge HI0.out))|exact HB.out)); rintro e w9 ⟨rfl, hi, hb, hk⟩; refine ⟨_, rfl, ?_⟩; have n0_ := Aside0.mk (Kd.R_mono (Kd.R_keep (IsS60.apart (show IsS60 w0 _ g s0_0 t133 from by repeat (first|(with_reducible first|exact HI0.out|apply IsS60.alloc|apply IsS60.drewN|apply IsS60.drew|apply IsS60.set_1)|exact HI0.out)) (by (with_reducible repeat first|apply rA|apply rN|apply rD); exact HO136.out) (by decide)) hk (fun _ h => h.2)) (fun _ h => h.1)); have n1_ := Aside0.mk (KeepBut.trans (by repeat (first|(with_reducible first|exact HK.out|apply KeepBut.set_|apply keep_drewN|apply keep_drew|apply keep_alloc)|exact HK.out)) hk (.inl rfl)); have n2_ := Aside0.mk (hb); have n3_ := Aside0.mk (hi); clear HO136; clear HK; clear HB; clear HI0; have HO136 := n0_; have HK := n1_; have HB := n2_; have HI0 := n3_; clear n0_ n1_ n2_ n3_; (try clear hb); (try clear hb2); (try clear hk); (try clear hi)))
 (try simp only [Act.put, lA, lZ, lS])
 go_cut [6] (fun v6 wc => ∃ (kq : Nat) (x6_5 : List Int), Aside0 (spec_l20Net.j0 kq a1 (wrap64 (1 + t132)) x6_5 s0_0 t138 = some (r1, r2)) ∧ Aside0 (kq ≤ k) ∧ Aside0 (Kd.R (Kd.int .i64) 3 wc w.heap.size (fun _ => True) v6 x6_5) ∧ Aside0 (IsS60 w0 wc g s0_0 t138) ∧ Aside0 (KeepBut w wc g none) ∧ Aside0 (Below w0.heap.size w0 wc))
 case first =>
  have H := HC6.out
  clear HC6
  by_cases c10 : t137 = 0
  ·rw [if_pos c10] at H
   have c10b0 : (t137 == 0) = true := beq_iff_eq.mpr c10
   have c10b1 : (t137 != 0) = false := bne_eq_false_iff_eq.mpr c10
   clear c10
   (first|rw [c10b0]|(simp only [i64_w, i32_w]; rw [c10b0])|skip)
   by_cases c11 : (wrap64 (1 + t132)) ≥ 3
   ·rw [if_pos c11] at H
    have c11b0 : decide (3 ≤ (wrap64 (1 + t132))) = true := decide_eq_true c11
    clear c11
    replace H := Option.bind_eq_some_iff.mp H
    obtain ⟨t139, A120, H⟩ := H
    replace H : (spec_l20Net.j0 k a1 (wrap64 (1 + t132)) t139 s0_0 t138) = some (r1, r2) := H
    have A12 := Aside0.mk A120
    clear A120
    have H' := Aside0.mk H
    clear H
    go_wp2_with (first|((with_reducible refine gate_callee (f:=58) rfl ?_);refine goesL_ (some 22) rfl rfl Try.func58 (by kernel_rfl) rfl #[.int .i64 (wrap64 (1 + t132))] rfl (by (try simp only [List.map_toArray,List.map_cons,List.map_nil]);first|done|rfl|(simp only [List.length_drop,List.length_take];rfl)) ?_;(with_reducible refine (spec_RingNet.calls k (wrap64 (1 + t132)) t139 _ A12.out).mono ?_);rintro e w13 ⟨v140,rfl,ho0,hb⟩;refine ⟨_,rfl,?_⟩;have n0_:=Aside0.mk (kE (by (with_reducible repeat first|apply rA|apply rN|apply rD);exact HO136.out) (Kd.R_base ho0) hb);have n1_:=Aside0.mk (Kd.R_lower (kN ho0 (Kd.R_lt (by (with_reducible repeat first|apply rA|apply rN|apply rD);exact HO136.out))) (keep_size (w:=w) (g:=g) (row:=none) (by repeat (first|(with_reducible first|exact HK.out|apply KeepBut.set_|apply keep_drewN|apply keep_drew|apply keep_alloc)|exact HK.out))));have n2_:=Aside0.mk (IsS60.below (by repeat (first|(with_reducible first|exact HI0.out|apply IsS60.alloc|apply IsS60.drewN|apply IsS60.drew|apply IsS60.set_1)|exact HI0.out)) hb);have n3_:=Aside0.mk (KeepBut.trans (by repeat (first|(with_reducible first|exact HK.out|apply KeepBut.set_|apply keep_drewN|apply keep_drew|apply keep_alloc)|exact HK.out)) (KeepBut.of_below hb g none) (.inl rfl));have n4_:=Aside0.mk (bT (by repeat (first|(with_reducible first|exact HB.out|apply bA|apply bN|apply bD|refine below_set ?_ (IsS60.ge HI0.out))|exact HB.out)) hb);clear HO136;clear HI0;clear HK;clear HB;have HO136:=n0_;have HO141:=n1_;have HI0:=n2_;have HK:=n3_;have HB:=n4_;clear n0_ n1_ n2_ n3_ n4_;(try clear hb);(try clear hb2);(try clear hk);(try clear hi);(try clear ho0)))
    go_meet
    case rel => exact ⟨_, (t139), H', ⟨by first|omega|exact Nat.le_refl _⟩, ⟨by (with_reducible repeat first|apply rA|apply rN|apply rD); exact Kd.R_mono HO141.out (fun _ hk => trivial)⟩, ⟨by repeat (first|(with_reducible first|exact HI0.out|apply IsS60.alloc|apply IsS60.drewN|apply IsS60.drew|apply IsS60.set_1)|exact HI0.out)⟩, ⟨by repeat (first|(with_reducible first|exact HK.out|apply KeepBut.set_|apply keep_drewN|apply keep_drew|apply keep_alloc)|exact HK.out)⟩, ⟨by repeat (first|(with_reducible first|exact HB.out|apply bA|apply bN|apply bD|refine below_set ?_ (IsS60.ge HI0.out))|exact HB.out)⟩⟩
   ·rw [if_neg c11] at H
    have c11b0 : decide (3 ≤ (wrap64 (1 + t132))) = false := decide_eq_false c11
    clear c11
    have H' := Aside0.mk H
    clear H
    go_wp2
    go_meet
    case rel => exact ⟨_, (t134), H', ⟨by first|omega|exact Nat.le_refl _⟩, ⟨by (with_reducible repeat first|apply rA|apply rN|apply rD); exact HO136.out⟩, ⟨by repeat (first|(with_reducible first|exact HI0.out|apply IsS60.alloc|apply IsS60.drewN|apply IsS60.drew|apply IsS60.set_1)|exact HI0.out)⟩, ⟨by repeat (first|(with_reducible first|exact HK.out|apply KeepBut.set_|apply keep_drewN|apply keep_drew|apply keep_alloc)|exact HK.out)⟩, ⟨by repeat (first|(with_reducible first|exact HB.out|apply bA|apply bN|apply bD|refine below_set ?_ (IsS60.ge HI0.out))|exact HB.out)⟩⟩
  ·rw [if_neg c10] at H
   have c10b0 : (t137 == 0) = false := beq_eq_false_iff_ne.mpr c10
   have c10b1 : (t137 != 0) = true := bne_iff_ne.mpr c10
   (first|rw [c10b0]|(simp only [i64_w, i32_w]; rw [c10b0])|skip)
   by_cases c14 : t137 = 1
   ·rw [if_pos c14] at H
    have c14b0 : (t137 == 1) = true := beq_iff_eq.mpr c14
    have c14b1 : (t137 != 1) = false := bne_eq_false_iff_eq.mpr c14
    clear c14
    obtain ⟨ji15, hji15⟩ : ∃ j_ : Int, (wrap64 (1 + t132)) = j_ := ⟨_, rfl⟩
    replace H : (if 0 ≤ (ji15) then (if (ji15 : Int).toNat ≤ 35184372088832 then (spec_l20Net.j0 k a1 ji15 (List.replicate (ji15 : Int).toNat 0) s0_0 t138) else (none)) else (none)) = some (r1, r2) := by first|(rw [hji15] at H; exact H)|(simp only [hji15] at H ⊢; exact H)
    have hji15w : (IntKind.i64.wrap (1 + t132)) = ji15 := (i64_w _).trans hji15
    by_cases c16 : 0 ≤ (ji15)
    ·rw [if_pos c16] at H
     have c16b0 := eq_true c16
     have c16b1 : decide (0 ≤ (ji15)) = true := decide_eq_true c16
     clear c16
     by_cases c17 : (ji15 : Int).toNat ≤ 35184372088832
     ·rw [if_pos c17] at H
      have c17b0 := eq_true c17
      have c17b1 : decide ((ji15 : Int).toNat ≤ 35184372088832) = true := decide_eq_true c17
      clear c17
      obtain ⟨y142, hy142⟩ : ∃ y_ : List Int, y_ = (List.replicate (ji15 : Int).toNat 0) := ⟨_, rfl⟩
      replace H : (spec_l20Net.j0 k a1 ji15 y142 s0_0 t138) = some (r1, r2) := by first|(rw [hy142]; with_reducible exact H)|(have H2_ := (Option.bind_some _ _).symm.trans H; rw [hy142]; with_reducible exact H2_)|(have H2_ := (Option.bind_some _ _).symm.trans H; with_reducible exact H2_)|with_reducible exact H|(rw [hy142]; exact H)|exact H
      have Ny142 := Aside0.mk hy142
      clear hy142
      have H' := Aside0.mk H
      clear H
      go_wp2_with (first|((with_reducible refine gate_dst (N:=26) rfl ?_);refine Kd.R_make (Kd.int .i64) _ 3 rfl (N:=26) rfl 23 _ _ rfl ji15 (by first|exact rfl|exact congrArg (Value.int .i64) hji15) (by first|exact rfl|exact congrArg (Value.int .i64) hji15) Try.underlying23 (.int .i64 0) 8 info3 rfl (by decide) (by omega) 0 (ok:=fun _ => True) (okp:=fun _ => True) rfl (fun _ hk => hk) trivial (oD (by first|(with_reducible assumption)|assumption)) (Nat.le_trans (Nat.mul_le_mul_right _ (oD (by first|(with_reducible assumption)|assumption) : ji15.toNat ≤ 35184372088832)) (by omega)) (Below.refl _ _) (Nat.le_refl _) ?_;intro v143 w18 ho19 hb hg_ hnew_;clear hg_ hnew_;(first|rw [← Ny142.out] at ho19|(simp only [Int.reduceToNat] at ho19;rw [← Ny142.out] at ho19));have n0_:=Aside0.mk (kE (by (with_reducible repeat first|apply rA|apply rN|apply rD);exact HO136.out) (Kd.R_base ho19) hb);have n1_:=Aside0.mk (Kd.R_lower (kN ho19 (Kd.R_lt (by (with_reducible repeat first|apply rA|apply rN|apply rD);exact HO136.out))) (keep_size (w:=w) (g:=g) (row:=none) (by repeat (first|(with_reducible first|exact HK.out|apply KeepBut.set_|apply keep_drewN|apply keep_drew|apply keep_alloc)|exact HK.out))));have n2_:=Aside0.mk (IsS60.below (by repeat (first|(with_reducible first|exact HI0.out|apply IsS60.alloc|apply IsS60.drewN|apply IsS60.drew|apply IsS60.set_1)|exact HI0.out)) hb);have n3_:=Aside0.mk (KeepBut.trans (by repeat (first|(with_reducible first|exact HK.out|apply KeepBut.set_|apply keep_drewN|apply keep_drew|apply keep_alloc)|exact HK.out)) (KeepBut.of_below hb g none) (.inl rfl));have n4_:=Aside0.mk (bT (by repeat (first|(with_reducible first|exact HB.out|apply bA|apply bN|apply bD|refine below_set ?_ (IsS60.ge HI0.out))|exact HB.out)) hb);clear HO136;clear HI0;clear HK;clear HB;have HO136:=n0_;have HO144:=n1_;have HI0:=n2_;have HK:=n3_;have HB:=n4_;clear n0_ n1_ n2_ n3_ n4_;clear hb ho19))
      (try rw [← hji15] at H')
      (try rw [← hji15])
      go_meet
      case rel => exact ⟨_, (y142), H', ⟨by first|omega|exact Nat.le_refl _⟩, ⟨by (with_reducible repeat first|apply rA|apply rN|apply rD); exact Kd.R_mono HO144.out (fun _ hk => trivial)⟩, ⟨by repeat (first|(with_reducible first|exact HI0.out|apply IsS60.alloc|apply IsS60.drewN|apply IsS60.drew|apply IsS60.set_1)|exact HI0.out)⟩, ⟨by repeat (first|(with_reducible first|exact HK.out|apply KeepBut.set_|apply keep_drewN|apply keep_drew|apply keep_alloc)|exact HK.out)⟩, ⟨by repeat (first|(with_reducible first|exact HB.out|apply bA|apply bN|apply bD|refine below_set ?_ (IsS60.ge HI0.out))|exact HB.out)⟩⟩
     ·rw [if_neg c17] at H
      exact absurd H (by simp)
    ·rw [if_neg c16] at H
     exact absurd H (by simp)
   ·rw [if_neg c14] at H
    have c14b0 : (t137 == 1) = false := beq_eq_false_iff_ne.mpr c14
    have c14b1 : (t137 != 1) = true := bne_iff_ne.mpr c14
    have H' := Aside0.mk H
    clear H
    go_wp2
    go_meet
    case rel => exact ⟨_, (t134), H', ⟨by first|omega|exact Nat.le_refl _⟩, ⟨by (with_reducible repeat first|apply rA|apply rN|apply rD); exact HO136.out⟩, ⟨by repeat (first|(with_reducible first|exact HI0.out|apply IsS60.alloc|apply IsS60.drewN|apply IsS60.drew|apply IsS60.set_1)|exact HI0.out)⟩, ⟨by repeat (first|(with_reducible first|exact HK.out|apply KeepBut.set_|apply keep_drewN|apply keep_drew|apply keep_alloc)|exact HK.out)⟩, ⟨by repeat (first|(with_reducible first|exact HB.out|apply bA|apply bN|apply bD|refine below_set ?_ (IsS60.ge HI0.out))|exact HB.out)⟩⟩
 case rest =>
  clear HC6
  try clear c1
  try clear p2
  try clear c5
  try clear c6
  try clear p6
  try clear c10
  try clear c10b0
  try clear c10b1
  try clear c11
  try clear c11b0
  try clear c14
  try clear c14b0
  try clear c14b1
  try clear c16
  try clear c16b0
  try clear c16b1
  try clear c17
  try clear c17b0
  try clear c17b1
  obtain ⟨kq, x6_5, HA, HJ5, HO_6, HI0, HK, HB⟩ := hcut
  cases kq with
  | zero => exact absurd HA.out (by simp [spec_l20Net.j0])
  | succ kj5 =>
   have H := HA.out
   clear HA
   simp only [spec_l20Net.j0] at H
   replace H := Option.bind_eq_some_iff.mp H
   obtain ⟨⟨t145, t146⟩, A200, H⟩ := H
   replace H : (spec_l20Net.l0 kj5 a1 (wrap64 (1 + t132)) x6_5 t145 s0_0 t146) = some (r1, r2) := H
   have A20 := Aside0.mk A200
   clear A200
   have H' := Aside0.mk H
   clear H
   go_wp2_with (first|((with_reducible refine gate_callee (f:=52) rfl ?_);refine goesL_ (some 28) rfl rfl Try.func52 (by kernel_rfl) rfl #[.pointer (some ⟨g,0,none⟩),.int .i64 6] rfl (by (try simp only [List.map_toArray,List.map_cons,List.map_nil]);first|done|rfl|(simp only [List.length_drop,List.length_take];rfl)) ?_;(with_reducible refine (spec_l20Rd_pick.calls kj5 g s0_0 t138 6 t145 t146 w0 _ ?side1 ?side2 A20.out).mono ?_);(case side1 => repeat (first|(with_reducible first|exact HI0.out|apply IsS60.alloc|apply IsS60.drewN|apply IsS60.drew|apply IsS60.set_1)|exact HI0.out));(case side2 => repeat (first|(with_reducible first|exact HB.out|apply bA|apply bN|apply bD|refine below_set ?_ (IsS60.ge HI0.out))|exact HB.out));rintro e w21 ⟨rfl,hi,hb,hk⟩;refine ⟨_,rfl,?_⟩;have n0_:=Aside0.mk (Kd.R_mono (Kd.R_keep (IsS60.apart (show IsS60 w0 _ g s0_0 t138 from by repeat (first|(with_reducible first|exact HI0.out|apply IsS60.alloc|apply IsS60.drewN|apply IsS60.drew|apply IsS60.set_1)|exact HI0.out)) (by (with_reducible repeat first|apply rA|apply rN|apply rD);exact HO_6.out) (by decide)) hk (fun _ h => h.2)) (fun _ h => h.1));have n1_:=Aside0.mk (KeepBut.trans (by repeat (first|(with_reducible first|exact HK.out|apply KeepBut.set_|apply keep_drewN|apply keep_drew|apply keep_alloc)|exact HK.out)) hk (.inl rfl));have n2_:=Aside0.mk (hb);have n3_:=Aside0.mk (hi);clear HO_6;clear HK;clear HB;clear HI0;have HO_6:=n0_;have HK:=n1_;have HB:=n2_;have HI0:=n3_;clear n0_ n1_ n2_ n3_;(try clear hb);(try clear hb2);(try clear hk);(try clear hi)))
   go_loopg [7] kj5 (fun kq v7 w' => ∃ (x6_2 : List Int) (x7_2 : Int) (x1001_2 : Int), v7 = .int .i64 x7_2 ∧ Aside0 (spec_l20Net.l0 kq a1 (wrap64 (1 + t132)) x6_2 x7_2 s0_0 x1001_2 = some (r1, r2)) ∧ Aside0 (kq ≤ kj5) ∧ Aside0 (Kd.R (Kd.int .i64) 3 w' w.heap.size (fun _ => True) u6 x6_2) ∧ Aside0 (IsS60 w0 w' g s0_0 x1001_2) ∧ Aside0 (KeepBut w w' g none) ∧ Aside0 (Below w0.heap.size w0 w'))
   case atStart => exact ⟨(x6_5), (t145), (t146), (by first|rfl|(simp; done)|(simp [*]; done)), H', ⟨Nat.le_refl _⟩, ⟨by (with_reducible repeat first|apply rA|apply rN|apply rD); exact HO_6.out⟩, ⟨by repeat (first|(with_reducible first|exact HI0.out|apply IsS60.alloc|apply IsS60.drewN|apply IsS60.drew|apply IsS60.set_1)|exact HI0.out)⟩, ⟨by repeat (first|(with_reducible first|exact HK.out|apply KeepBut.set_|apply keep_drewN|apply keep_drew|apply keep_alloc)|exact HK.out)⟩, ⟨by repeat (first|(with_reducible first|exact HB.out|apply bA|apply bN|apply bD|refine below_set ?_ (IsS60.ge HI0.out))|exact HB.out)⟩⟩
   case round =>
    clear H'
    try clear c1
    try clear p2
    try clear c5
    try clear c6
    try clear p6
    try clear c10
    try clear c10b0
    try clear c10b1
    try clear c11
    try clear c11b0
    try clear c14
    try clear c14b0
    try clear c14b1
    try clear c16
    try clear c16b0
    try clear c16b1
    try clear c17
    try clear c17b0
    try clear c17b1
    try clear p2
    try clear p6
    obtain ⟨x6_2, x7_2, x1001_2, rfl, HA, HK2, HO_6, HI0, HK, HB⟩ := hrel
    cases gk with
    | zero => exact absurd HA.out (by simp [spec_l20Net.l0])
    | succ k2 =>
     have H := HA.out
     clear HA
     simp only [spec_l20Net.l0] at H
     by_cases c22 : x7_2 > 0
     ·rw [if_pos c22] at H
      have c22b0 : decide (0 < x7_2) = true := decide_eq_true c22
      clear c22
      replace H := Option.bind_eq_some_iff.mp H
      obtain ⟨⟨t147, t148⟩, A230, H⟩ := H
      replace H : ((spec_l20Rd_pick.f k2 s0_0 t148 (wrap64 (1 + t132))).bind fun bt149 => (if t147 = bt149.1 then (spec_l20Net.l0 k2 a1 (wrap64 (1 + t132)) x6_2 (wrap64 (x7_2 - 1)) s0_0 bt149.2) else (if 0 ≤ t147 then (if t147 < (x6_2.length : Int) then (if 0 ≤ bt149.1 then ((some (x6_2.set (t147 : Int).toNat (Go.bits .or .i64 (rd x6_2 t147) (shl .i64 1 bt149.1)) : List Int)).bind fun y152 => (if bt149.1 < (x6_2.length : Int) then (spec_l20Net.l0 k2 a1 (wrap64 (1 + t132)) (y152.set (bt149.1 : Int).toNat (Go.bits .or .i64 (rd y152 bt149.1) (shl .i64 1 t147))) (wrap64 (x7_2 - 1)) s0_0 bt149.2) else (none))) else (none)) else (none)) else (none)))) = some (r1, r2) := H
      have A23 := Aside0.mk A230
      clear A230
      replace H := Option.bind_eq_some_iff.mp H
      obtain ⟨⟨t149, t150⟩, A240, H⟩ := H
      replace H : (if t147 = t149 then (spec_l20Net.l0 k2 a1 (wrap64 (1 + t132)) x6_2 (wrap64 (x7_2 - 1)) s0_0 t150) else (if 0 ≤ t147 then (if t147 < (x6_2.length : Int) then (if 0 ≤ t149 then ((some (x6_2.set (t147 : Int).toNat (Go.bits .or .i64 (rd x6_2 t147) (shl .i64 1 t149)) : List Int)).bind fun y152 => (if t149 < (x6_2.length : Int) then (spec_l20Net.l0 k2 a1 (wrap64 (1 + t132)) (y152.set (t149 : Int).toNat (Go.bits .or .i64 (rd y152 t149) (shl .i64 1 t147))) (wrap64 (x7_2 - 1)) s0_0 t150) else (none))) else (none)) else (none)) else (none))) = some (r1, r2) := H
      have A24 := Aside0.mk A240
      clear A240
      by_cases c25 : t147 = t149
      ·rw [if_pos c25] at H
       have c25b0 : (t147 == t149) = true := beq_iff_eq.mpr c25
       have c25b1 : (t147 != t149) = false := bne_eq_false_iff_eq.mpr c25
       clear c25
       have H' := Aside0.mk H
       clear H
       go_wp2_with (first|((with_reducible refine gate_callee (f:=52) rfl ?_);refine goesL_ (some 35) rfl rfl Try.func52 (by kernel_rfl) rfl #[.pointer (some ⟨g,0,none⟩),.int .i64 (wrap64 (1 + t132))] rfl (by (try simp only [List.map_toArray,List.map_cons,List.map_nil]);first|done|rfl|(simp only [List.length_drop,List.length_take];rfl)) ?_;(with_reducible refine (spec_l20Rd_pick.calls k2 g s0_0 x1001_2 (wrap64 (1 + t132)) t147 t148 w0 _ ?side1 ?side2 A23.out).mono ?_);(case side1 => repeat (first|(with_reducible first|exact HI0.out|apply IsS60.alloc|apply IsS60.drewN|apply IsS60.drew|apply IsS60.set_1)|exact HI0.out));(case side2 => repeat (first|(with_reducible first|exact HB.out|apply bA|apply bN|apply bD|refine below_set ?_ (IsS60.ge HI0.out))|exact HB.out));rintro e w26 ⟨rfl,hi,hb,hk⟩;refine ⟨_,rfl,?_⟩;have n0_:=Aside0.mk (Kd.R_mono (Kd.R_keep (IsS60.apart (show IsS60 w0 _ g s0_0 x1001_2 from by repeat (first|(with_reducible first|exact HI0.out|apply IsS60.alloc|apply IsS60.drewN|apply IsS60.drew|apply IsS60.set_1)|exact HI0.out)) (by (with_reducible repeat first|apply rA|apply rN|apply rD);exact HO_6.out) (by decide)) hk (fun _ h => h.2)) (fun _ h => h.1));have n1_:=Aside0.mk (KeepBut.trans (by repeat (first|(with_reducible first|exact HK.out|apply KeepBut.set_|apply keep_drewN|apply keep_drew|apply keep_alloc)|exact HK.out)) hk (.inl rfl));have n2_:=Aside0.mk (hb);have n3_:=Aside0.mk (hi);clear HO_6;clear HK;clear HB;clear HI0;have HO_6:=n0_;have HK:=n1_;have HB:=n2_;have HI0:=n3_;clear n0_ n1_ n2_ n3_;(try clear hb);(try clear hb2);(try clear hk);(try clear hi))|((with_reducible refine gate_callee (f:=52) rfl ?_);refine goesL_ (some 38) rfl rfl Try.func52 (by kernel_rfl) rfl #[.pointer (some ⟨g,0,none⟩),.int .i64 (wrap64 (1 + t132))] rfl (by (try simp only [List.map_toArray,List.map_cons,List.map_nil]);first|done|rfl|(simp only [List.length_drop,List.length_take];rfl)) ?_;(with_reducible refine (spec_l20Rd_pick.calls k2 g s0_0 t148 (wrap64 (1 + t132)) t149 t150 w0 _ ?side1 ?side2 A24.out).mono ?_);(case side1 => repeat (first|(with_reducible first|exact HI0.out|apply IsS60.alloc|apply IsS60.drewN|apply IsS60.drew|apply IsS60.set_1)|exact HI0.out));(case side2 => repeat (first|(with_reducible first|exact HB.out|apply bA|apply bN|apply bD|refine below_set ?_ (IsS60.ge HI0.out))|exact HB.out));rintro e w27 ⟨rfl,hi,hb,hk⟩;refine ⟨_,rfl,?_⟩;have n0_:=Aside0.mk (Kd.R_mono (Kd.R_keep (IsS60.apart (show IsS60 w0 _ g s0_0 t148 from by repeat (first|(with_reducible first|exact HI0.out|apply IsS60.alloc|apply IsS60.drewN|apply IsS60.drew|apply IsS60.set_1)|exact HI0.out)) (by (with_reducible repeat first|apply rA|apply rN|apply rD);exact HO_6.out) (by decide)) hk (fun _ h => h.2)) (fun _ h => h.1));have n1_:=Aside0.mk (KeepBut.trans (by repeat (first|(with_reducible first|exact HK.out|apply KeepBut.set_|apply keep_drewN|apply keep_drew|apply keep_alloc)|exact HK.out)) hk (.inl rfl));have n2_:=Aside0.mk (hb);have n3_:=Aside0.mk (hi);clear HO_6;clear HK;clear HB;clear HI0;have HO_6:=n0_;have HK:=n1_;have HB:=n2_;have HI0:=n3_;clear n0_ n1_ n2_ n3_;(try clear hb);(try clear hb2);(try clear hk);(try clear hi)))
       go_roundg k2
       case measure => have := HJ5.out; have := HK2.out; omega
       case rel => exact ⟨(x6_2), (wrap64 (x7_2 - 1)), (t150), (by first|rfl|(simp; done)|(simp [*]; done)), H', ⟨by have := HJ5.out; have := HK2.out; omega⟩, ⟨by (with_reducible repeat first|apply rA|apply rN|apply rD); exact HO_6.out⟩, ⟨by repeat (first|(with_reducible first|exact HI0.out|apply IsS60.alloc|apply IsS60.drewN|apply IsS60.drew|apply IsS60.set_1)|exact HI0.out)⟩, ⟨by repeat (first|(with_reducible first|exact HK.out|apply KeepBut.set_|apply keep_drewN|apply keep_drew|apply keep_alloc)|exact HK.out)⟩, ⟨by repeat (first|(with_reducible first|exact HB.out|apply bA|apply bN|apply bD|refine below_set ?_ (IsS60.ge HI0.out))|exact HB.out)⟩⟩
      ·rw [if_neg c25] at H
       have c25b0 : (t147 == t149) = false := beq_eq_false_iff_ne.mpr c25
       have c25b1 : (t147 != t149) = true := bne_iff_ne.mpr c25
       by_cases c28 : 0 ≤ t147
       ·rw [if_pos c28] at H
        have c28b0 : decide (0 ≤ t147) = true := decide_eq_true c28
        clear c28
        by_cases c29 : t147 < (x6_2.length : Int)
        ·rw [if_pos c29] at H
         have c29b0 : decide (t147 < (x6_2.length : Int)) = true := decide_eq_true c29
         clear c29
         by_cases c30 : 0 ≤ t149
         ·rw [if_pos c30] at H
          have c30b0 := eq_true c30
          have c30b1 : decide (0 ≤ t149) = true := decide_eq_true c30
          clear c30
          obtain ⟨ji31, hji31⟩ : ∃ j_ : Int, (shl .i64 1 t149) = j_ := ⟨_, rfl⟩
          replace H : ((some (x6_2.set (t147 : Int).toNat (Go.bits .or .i64 (rd x6_2 t147) (ji31)) : List Int)).bind fun y152 => (if t149 < (x6_2.length : Int) then (spec_l20Net.l0 k2 a1 (wrap64 (1 + t132)) (y152.set (t149 : Int).toNat (Go.bits .or .i64 (rd y152 t149) (shl .i64 1 t147))) (wrap64 (x7_2 - 1)) s0_0 t150) else (none))) = some (r1, r2) := by first|(rw [hji31] at H; exact H)|(simp only [hji31] at H ⊢; exact H)
          (try rw [hji31] at A23)
          (try rw [hji31] at A24)
          have hji31_ : (IntKind.i64.wrap (1 * 2 ^ min t149.toNat 64)) = ji31 := hji31
          have hji31z : t149 ≤ 64 → (IntKind.i64.wrap (1 * 2 ^ t149.toNat)) = ji31 := shl_small hji31
          have hji31u : (IntKind.i64.wrap (2 ^ min t149.toNat 64)) = ji31 := by have h_ := hji31_; rw [Int.one_mul] at h_; exact h_
          have hji31v : t149 ≤ 64 → (IntKind.i64.wrap (2 ^ t149.toNat)) = ji31 := fun hle_ => by have h_ := hji31z hle_; rw [Int.one_mul] at h_; exact h_
          have hji31y : (wrap64 (1 * 2 ^ min t149.toNat 64)) = ji31 := (i64_w _).symm.trans hji31_
          have hji31x : t149 ≤ 64 → (wrap64 (1 * 2 ^ t149.toNat)) = ji31 := fun h_ => (i64_w _).symm.trans (hji31z h_)
          obtain ⟨y152, hy152⟩ : ∃ y_ : List Int, y_ = (x6_2.set (t147 : Int).toNat (Go.bits .or .i64 (rd x6_2 t147) (ji31))) := ⟨_, rfl⟩
          replace H : (if t149 < (x6_2.length : Int) then (spec_l20Net.l0 k2 a1 (wrap64 (1 + t132)) (y152.set (t149 : Int).toNat (Go.bits .or .i64 (rd y152 t149) (shl .i64 1 t147))) (wrap64 (x7_2 - 1)) s0_0 t150) else (none)) = some (r1, r2) := by first|(rw [hy152]; with_reducible exact H)|(have H2_ := (Option.bind_some _ _).symm.trans H; rw [hy152]; with_reducible exact H2_)|(have H2_ := (Option.bind_some _ _).symm.trans H; with_reducible exact H2_)|with_reducible exact H|(rw [hy152]; exact H)|exact H
          have Ny152 := Aside0.mk hy152
          clear hy152
          by_cases c33 : t149 < (x6_2.length : Int)
          ·rw [if_pos c33] at H
           have c33b0 : decide (t149 < (x6_2.length : Int)) = true := decide_eq_true c33
           clear c33
           have c34b0 := eq_true (oD (by first|(with_reducible assumption)|assumption) : 0 ≤ t147)
           obtain ⟨ji35, hji35⟩ : ∃ j_ : Int, (shl .i64 1 t147) = j_ := ⟨_, rfl⟩
           replace H : (spec_l20Net.l0 k2 a1 (wrap64 (1 + t132)) (y152.set (t149 : Int).toNat (Go.bits .or .i64 (rd y152 t149) (ji35))) (wrap64 (x7_2 - 1)) s0_0 t150) = some (r1, r2) := by first|(rw [hji35] at H; exact H)|(simp only [hji35] at H ⊢; exact H)
           (try rw [hji35] at A23)
           (try rw [hji35] at A24)
           have hji35_ : (IntKind.i64.wrap (1 * 2 ^ min t147.toNat 64)) = ji35 := hji35
           have hji35z : t147 ≤ 64 → (IntKind.i64.wrap (1 * 2 ^ t147.toNat)) = ji35 := shl_small hji35
           have hji35u : (IntKind.i64.wrap (2 ^ min t147.toNat 64)) = ji35 := by have h_ := hji35_; rw [Int.one_mul] at h_; exact h_
           have hji35v : t147 ≤ 64 → (IntKind.i64.wrap (2 ^ t147.toNat)) = ji35 := fun hle_ => by have h_ := hji35z hle_; rw [Int.one_mul] at h_; exact h_
           have hji35y : (wrap64 (1 * 2 ^ min t147.toNat 64)) = ji35 := (i64_w _).symm.trans hji35_
           have hji35x : t147 ≤ 64 → (wrap64 (1 * 2 ^ t147.toNat)) = ji35 := fun h_ => (i64_w _).symm.trans (hji35z h_)
           obtain ⟨y154, hy154⟩ : ∃ y_ : List Int, y_ = (y152.set (t149 : Int).toNat (Go.bits .or .i64 (rd y152 t149) (ji35))) := ⟨_, rfl⟩
           replace H : (spec_l20Net.l0 k2 a1 (wrap64 (1 + t132)) y154 (wrap64 (x7_2 - 1)) s0_0 t150) = some (r1, r2) := by first|(rw [hy154]; with_reducible exact H)|(have H2_ := (Option.bind_some _ _).symm.trans H; rw [hy154]; with_reducible exact H2_)|(have H2_ := (Option.bind_some _ _).symm.trans H; with_reducible exact H2_)|with_reducible exact H|(rw [hy154]; exact H)|exact H
           have Ny154 := Aside0.mk hy154
           clear hy154
           have H' := Aside0.mk H
           clear H
           try go_wp2_with (first|((with_reducible refine gate_callee (f:=52) rfl ?_);refine goesL_ (some 35) rfl rfl Try.func52 (by kernel_rfl) rfl #[.pointer (some ⟨g,0,none⟩),.int .i64 (wrap64 (1 + t132))] rfl (by (try simp only [List.map_toArray,List.map_cons,List.map_nil]);first|done|rfl|(simp only [List.length_drop,List.length_take];rfl)) ?_;(with_reducible refine (spec_l20Rd_pick.calls k2 g s0_0 x1001_2 (wrap64 (1 + t132)) t147 t148 w0 _ ?side1 ?side2 A23.out).mono ?_);(case side1 => repeat (first|(with_reducible first|exact HI0.out|apply IsS60.alloc|apply IsS60.drewN|apply IsS60.drew|apply IsS60.set_1)|exact HI0.out));(case side2 => repeat (first|(with_reducible first|exact HB.out|apply bA|apply bN|apply bD|refine below_set ?_ (IsS60.ge HI0.out))|exact HB.out));rintro e w37 ⟨rfl,hi,hb,hk⟩;refine ⟨_,rfl,?_⟩;have n0_:=Aside0.mk (Kd.R_mono (Kd.R_keep (IsS60.apart (show IsS60 w0 _ g s0_0 x1001_2 from by repeat (first|(with_reducible first|exact HI0.out|apply IsS60.alloc|apply IsS60.drewN|apply IsS60.drew|apply IsS60.set_1)|exact HI0.out)) (by (with_reducible repeat first|apply rA|apply rN|apply rD);exact HO_6.out) (by decide)) hk (fun _ h => h.2)) (fun _ h => h.1));have n1_:=Aside0.mk (KeepBut.trans (by repeat (first|(with_reducible first|exact HK.out|apply KeepBut.set_|apply keep_drewN|apply keep_drew|apply keep_alloc)|exact HK.out)) hk (.inl rfl));have n2_:=Aside0.mk (hb);have n3_:=Aside0.mk (hi);clear HO_6;clear HK;clear HB;clear HI0;have HO_6:=n0_;have HK:=n1_;have HB:=n2_;have HI0:=n3_;clear n0_ n1_ n2_ n3_;(try clear hb);(try clear hb2);(try clear hk);(try clear hi))|((with_reducible refine gate_callee (f:=52) rfl ?_);refine goesL_ (some 38) rfl rfl Try.func52 (by kernel_rfl) rfl #[.pointer (some ⟨g,0,none⟩),.int .i64 (wrap64 (1 + t132))] rfl (by (try simp only [List.map_toArray,List.map_cons,List.map_nil]);first|done|rfl|(simp only [List.length_drop,List.length_take];rfl)) ?_;(with_reducible refine (spec_l20Rd_pick.calls k2 g s0_0 t148 (wrap64 (1 + t132)) t149 t150 w0 _ ?side1 ?side2 A24.out).mono ?_);(case side1 => repeat (first|(with_reducible first|exact HI0.out|apply IsS60.alloc|apply IsS60.drewN|apply IsS60.drew|apply IsS60.set_1)|exact HI0.out));(case side2 => repeat (first|(with_reducible first|exact HB.out|apply bA|apply bN|apply bD|refine below_set ?_ (IsS60.ge HI0.out))|exact HB.out));rintro e w38 ⟨rfl,hi,hb,hk⟩;refine ⟨_,rfl,?_⟩;have n0_:=Aside0.mk (Kd.R_mono (Kd.R_keep (IsS60.apart (show IsS60 w0 _ g s0_0 t148 from by repeat (first|(with_reducible first|exact HI0.out|apply IsS60.alloc|apply IsS60.drewN|apply IsS60.drew|apply IsS60.set_1)|exact HI0.out)) (by (with_reducible repeat first|apply rA|apply rN|apply rD);exact HO_6.out) (by decide)) hk (fun _ h => h.2)) (fun _ h => h.1));have n1_:=Aside0.mk (KeepBut.trans (by repeat (first|(with_reducible first|exact HK.out|apply KeepBut.set_|apply keep_drewN|apply keep_drew|apply keep_alloc)|exact HK.out)) hk (.inl rfl));have n2_:=Aside0.mk (hb);have n3_:=Aside0.mk (hi);clear HO_6;clear HK;clear HB;clear HI0;have HO_6:=n0_;have HK:=n1_;have HB:=n2_;have HI0:=n3_;clear n0_ n1_ n2_ n3_;(try clear hb);(try clear hb2);(try clear hk);(try clear hi)))
           have n0_ := Aside0.mk (Kd.R_drew HO_6.out)
           have n1_ := Aside0.mk (IsS60.drew HI0.out)
           have n2_ := Aside0.mk (keep_drew HK.out)
           have n3_ := Aside0.mk (below_drew1 HB.out)
           clear HO_6
           clear HI0
           clear HK
           clear HB
           have HO_6 := n0_
           have HI0 := n1_
           have HK := n2_
           have HB := n3_
           clear n0_ n1_ n2_ n3_
           obtain ⟨Ao40, co40, eo40⟩ := kS HO_6.out
           (first|subst eo40|(injection eo40 with f1_ f2_ f3_; have f4_ := f1_.symm; have f5_ := f3_.symm; clear f1_ f2_ f3_; subst f4_; subst f5_))
           have p151 : 0 ≤ (t147 : Int) := oD (by first|(with_reducible assumption)|assumption)
           have q151 : t147 < (x6_2.length : Int) := oD (by first|(with_reducible assumption)|assumption)
           obtain ⟨ad151, e151, hx151_0⟩ := aI (kR HO_6.out).2.2 t147 p151 q151
           cases e151
           replace p151 := eq_true p151
           replace q151 := eq_true q151
           have p32 : 0 ≤ (t147 : Int) := oD (by first|(with_reducible assumption)|assumption)
           have q32 : (t147 : Int) < ((x6_2.length : Int) : Int) := oD (by first|(with_reducible assumption)|assumption)
           obtain ⟨go32, co32, eo32, gb32, gl32, cl32, HG32⟩ := Kd.R_form HO_6.out (by omega)
           (first|cases eo32|(injection eo32 with ea_ en_ ec_; (first|subst ea_|(injection ea_ with ea_; subst ea_)); subst ec_; clear en_))
           have GB32 := Aside0.mk gb32
           have GG32 := Aside0.mk HG32
           clear gb32 gl32 HG32
           (first|simp only [add_plain] at hx151_0|skip)
           obtain ⟨hx32_0, hf32_0⟩ := Kd.R_celln 0 HO_6.out (t147 : Int) p32 q32
           replace p32 := eq_true p32
           replace q32 := eq_true q32
           have HN0_go32 := Aside0.mk (show g ≠ go32 from by have h_ := IsS60.own_ne HI0.out HO_6.out (by decide); intro e_; exact h_ (by rw [e_]; rfl))
           have HP41 := Kd.R_putn HO_6.out (t147 : Int) (Go.bits .or .i64 (rd x6_2 t147) (ji31))
           rw [← Ny152.out] at HP41
           have HQ41 := Aside0.mk HP41
           clear HP41
           refine start_ (n := 11) (S := fun w' => w'.cell? ⟨go32, (t147).toNat, none⟩ = some (.int .i64 (rd x6_2 t147))) (ds := [10]) #[false, false, false, false, false, false, false, false, false, false, false] (by kernel_rfl) rfl rfl (hx151_0) (fun hHeld => ?_); refine with_tabW spec_l20Net.tab15 spec_l20Net.bits15 (fun HT_ HW_ => ?_)
           generalize w38.drew = w39 at HO_6 HI0 HK HB GG32 HQ41 hf32_0 hx151_0 hx32_0 hHeld ⊢
           refine pure_ (i := 0) (N := some 42) (v := ?_) (a' := ?_) #[true, false, false, false, false, false, false, false, false, false, false] rfl rfl (any_of HT_.out (by kernel_rfl)) (fun _ _ _ h => h) (Or.inl ⟨by rfl, ?_⟩) ?_ ?_
           rotate_left
           ·intro w'
            go_simp
            with_reducible rfl
           rotate_left
           ·simp only [Act.put, lA, lZ, lS, i64_w, i32_w]
            rfl
           refine pure_ (i := 1) (N := some 43) (v := ?_) (a' := ?_) #[true, true, false, false, false, false, false, false, false, false, false] rfl rfl (any_of HT_.out (by kernel_rfl)) (fun _ _ _ h => h) (Or.inl ⟨by rfl, ?_⟩) ?_ ?_
           rotate_left
           ·intro w'
            go_simp
            with_reducible rfl
           rotate_left
           ·simp only [Act.put, lA, lZ, lS, i64_w, i32_w]
            rfl
           refine pure_ (i := 2) (N := some 44) (v := ?_) (a' := ?_) #[true, true, true, false, false, false, false, false, false, false, false] rfl rfl (any_of HT_.out (by kernel_rfl)) (fun _ _ _ h => h) (Or.inl ⟨by rfl, ?_⟩) ?_ ?_
           rotate_left
           ·intro w'
            go_simp
            with_reducible rfl
           rotate_left
           ·simp only [Act.put, lA, lZ, lS, i64_w, i32_w]
            rfl
           refine pure_ (i := 3) (N := some 45) (v := ?_) (a' := ?_) #[true, true, true, true, false, false, false, false, false, false, false] rfl rfl (any_of HT_.out (by kernel_rfl)) (fun _ _ _ h => h) (Or.inl ⟨by rfl, ?_⟩) ?_ ?_
           rotate_left
           ·intro w'
            go_simp
            with_reducible rfl
           rotate_left
           ·simp only [Act.put, lA, lZ, lS, i64_w, i32_w]
            rfl
           refine pure_ (i := 4) (N := some 46) (v := ?_) (a' := ?_) #[true, true, true, true, true, false, false, false, false, false, false] rfl rfl (any_of HT_.out (by kernel_rfl)) (fun _ _ _ h => h) (Or.inl ⟨by rfl, ?_⟩) ?_ ?_
           rotate_left
           ·intro w'
            go_simp
            with_reducible rfl
           rotate_left
           ·simp only [Act.put, lA, lZ, lS, i64_w, i32_w]
            rfl
           refine pure_ (i := 6) (N := some 48) (v := ?_) (a' := ?_) #[true, true, true, true, true, false, true, false, false, false, false] rfl rfl (any_of HT_.out (by kernel_rfl)) (fun _ _ _ h => h) (Or.inl ⟨by rfl, ?_⟩) ?_ ?_
           rotate_left
           ·intro w'
            go_simp
            with_reducible rfl
           rotate_left
           ·simp only [Act.put, lA, lZ, lS, i64_w, i32_w]
            rfl
           refine pure_ (i := 7) (N := some 49) (v := ?_) (a' := ?_) #[true, true, true, true, true, false, true, true, false, false, false] rfl rfl (any_of HT_.out (by kernel_rfl)) (fun _ _ _ h => h) (Or.inl ⟨by rfl, ?_⟩) ?_ ?_
           rotate_left
           ·intro w'
            go_simp
            with_reducible rfl
           rotate_left
           ·simp only [Act.put, lA, lZ, lS, i64_w, i32_w]
            rfl
           refine take_ (i := 5) (N := some 47) (v := ?_) (a' := ?_) #[true, true, true, true, true, true, true, true, false, false, false] rfl rfl (take_ofW HT_.out HW_.out (by kernel_rfl)) (fun _ _ _ h => h) (Or.inl ⟨by rfl, ?_⟩) hHeld ?_ ?_
           rotate_left
           ·intro w' s0
            go_simp
            with_reducible rfl
           rotate_left
           ·simp only [Act.put, lA, lZ, lS, i64_w, i32_w]
            rfl
           refine pure_ (i := 8) (N := some 50) (v := ?_) (a' := ?_) #[true, true, true, true, true, true, true, true, true, false, false] rfl rfl (any_of HT_.out (by kernel_rfl)) (fun _ _ _ h => h) (Or.inl ⟨by rfl, ?_⟩) ?_ ?_
           rotate_left
           ·intro w'
            go_simp
            with_reducible rfl
           rotate_left
           ·simp only [Act.put, lA, lZ, lS, i64_w, i32_w]
            rfl
           refine pure_ (i := 9) (N := some 51) (v := ?_) (a' := ?_) #[true, true, true, true, true, true, true, true, true, true, false] rfl rfl (any_of HT_.out (by kernel_rfl)) (fun _ _ _ h => h) (Or.inl ⟨by rfl, ?_⟩) ?_ ?_
           rotate_left
           ·intro w'
            go_simp
            with_reducible rfl
           rotate_left
           ·simp only [Act.put, lA, lZ, lS, i64_w, i32_w]
            rfl
           refine last_ (i := 10) (N := none) #[true, true, true, true, true, true, true, true, true, true, true] rfl rfl (one_of HT_.out (by kernel_rfl)) (by decide) (fun K hK => ?_)
           refine skip_ (w1 := ?_) (by rfl) rfl ?_ ?_
           rotate_left
           ·go_simp
            rfl
           refine hK.out _ _ ?_
           clear hK K
           refine done_ (done_of HT_.out (by kernel_rfl)) ?_
           try go_wp2
           have n0_ : Aside0 (Kd.R (Kd.int .i64) 3 (w39.setCell ⟨go32, (t147 : Int).toNat, none⟩ (.int .i64 (Go.bits .or .i64 (rd x6_2 t147) (ji31)))) w.heap.size (fun _ => True) (.slice (some ⟨go32, 0, none⟩) x6_2.length co40) y152) := ⟨by (with_reducible repeat first|apply rA|apply rN|apply rD); exact HQ41.out⟩
           have n1_ : Aside0 (IsS60 w0 (w39.setCell ⟨go32, (t147 : Int).toNat, none⟩ (.int .i64 (Go.bits .or .i64 (rd x6_2 t147) (ji31)))) g s0_0 t150) := ⟨by repeat (first|(with_reducible first|exact HI0.out|apply IsS60.alloc|apply IsS60.drewN|apply IsS60.drew|apply IsS60.set_1|refine IsS60.far ?_ HN0_go32.out _)|exact HI0.out)⟩
           have n2_ : Aside0 (KeepBut w (w39.setCell ⟨go32, (t147 : Int).toNat, none⟩ (.int .i64 (Go.bits .or .i64 (rd x6_2 t147) (ji31)))) g none) := ⟨by repeat (first|(with_reducible first|exact HK.out|apply KeepBut.set_|apply keep_drewN|apply keep_drew|apply keep_alloc|refine keep_far ?_ GB32.out _)|exact HK.out)⟩
           have n3_ : Aside0 (Below w0.heap.size w0 (w39.setCell ⟨go32, (t147 : Int).toNat, none⟩ (.int .i64 (Go.bits .or .i64 (rd x6_2 t147) (ji31))))) := ⟨by repeat (first|(with_reducible first|exact HB.out|apply bA|apply bN|apply bD|refine below_set ?_ (Nat.le_trans HL.out GB32.out)|refine below_set ?_ (IsS60.ge HI0.out))|exact HB.out)⟩
           (try clear HO_6)
           (try clear HI0)
           (try clear HK)
           (try clear HB)
           generalize (w39.setCell ⟨go32, (t147 : Int).toNat, none⟩ (.int .i64 (Go.bits .or .i64 (rd x6_2 t147) (ji31)))) = w42 at n0_ n1_ n2_ n3_ ⊢
           have HO_6 := n0_
           have HI0 := n1_
           have HK := n2_
           have HB := n3_
           clear n0_ n1_ n2_ n3_
           have n0_ := Aside0.mk (Kd.R_drew HO_6.out)
           have n1_ := Aside0.mk (IsS60.drew HI0.out)
           have n2_ := Aside0.mk (keep_drew HK.out)
           have n3_ := Aside0.mk (below_drew1 HB.out)
           clear HO_6
           clear HI0
           clear HK
           clear HB
           have HO_6 := n0_
           have HI0 := n1_
           have HK := n2_
           have HB := n3_
           clear n0_ n1_ n2_ n3_
           have p153 : 0 ≤ (t149 : Int) := oD (by first|(with_reducible assumption)|assumption)
           have q153 : t149 < (y152.length : Int) := (by have h_ : (t149 : Int) < ((x6_2.length : Int) : Int) := oD (by first|(with_reducible assumption)|assumption); first|(have e_ := (kR HO_6.out).1; omega)|simpa only [Ny152.out, List.length_set] using h_)
           have ql153 : ((t149 : Int) < ((x6_2.length : Int) : Int)) = True := eq_true (oD (by first|(with_reducible assumption)|assumption))
           obtain ⟨ad153, e153, hx153_0⟩ := aI (kR HO_6.out).2.2 t149 p153 q153
           obtain rfl : (⟨go32, 0, none⟩ : Addr) = ad153 := (by injection e153)
           (first|simp only [add_plain] at hx153_0|simp only [add_at] at hx153_0|simp only [Addr.add, Nat.zero_add] at hx153_0|skip)
           replace p153 := eq_true p153
           replace q153 := eq_true q153
           have p36 : 0 ≤ (t149 : Int) := oD (by first|(with_reducible assumption)|assumption)
           have q36 : (t149 : Int) < ((x6_2.length : Int) : Int) := oD (by first|(with_reducible assumption)|assumption)
           obtain ⟨hx36_0, hf36_0⟩ := Kd.R_celln 0 HO_6.out (t149 : Int) p36 q36
           replace p36 := eq_true p36
           replace q36 := eq_true q36
           have HN0_go32 := Aside0.mk (show g ≠ go32 from by have h_ := IsS60.own_ne HI0.out HO_6.out (by decide); intro e_; exact h_ (by rw [e_]; rfl))
           have HP44 := Kd.R_putn HO_6.out (t149 : Int) (Go.bits .or .i64 (rd y152 t149) (ji35))
           rw [← Ny154.out] at HP44
           have HQ44 := Aside0.mk HP44
           clear HP44
           refine start_ (n := 11) (S := fun w' => w'.cell? ⟨go32, (t149).toNat, none⟩ = some (.int .i64 (rd y152 t149))) (ds := [10]) #[false, false, false, false, false, false, false, false, false, false, false] (by kernel_rfl) rfl rfl (hx153_0) (fun hHeld => ?_); refine with_tabW spec_l20Net.tab16 spec_l20Net.bits16 (fun HT_ HW_ => ?_)
           generalize w42.drew = w43 at HO_6 HI0 HK HB HQ41 HQ44 hf36_0 hx153_0 hx36_0 hHeld ⊢
           refine pure_ (i := 0) (N := some 52) (v := ?_) (a' := ?_) #[true, false, false, false, false, false, false, false, false, false, false] rfl rfl (any_of HT_.out (by kernel_rfl)) (fun _ _ _ h => h) (Or.inl ⟨by rfl, ?_⟩) ?_ ?_
           rotate_left
           ·intro w'
            go_simp
            with_reducible rfl
           rotate_left
           ·simp only [Act.put, lA, lZ, lS, i64_w, i32_w]
            rfl
           refine pure_ (i := 1) (N := some 53) (v := ?_) (a' := ?_) #[true, true, false, false, false, false, false, false, false, false, false] rfl rfl (any_of HT_.out (by kernel_rfl)) (fun _ _ _ h => h) (Or.inl ⟨by rfl, ?_⟩) ?_ ?_
           rotate_left
           ·intro w'
            go_simp
            with_reducible rfl
           rotate_left
           ·simp only [Act.put, lA, lZ, lS, i64_w, i32_w]
            rfl
           refine pure_ (i := 2) (N := some 54) (v := ?_) (a' := ?_) #[true, true, true, false, false, false, false, false, false, false, false] rfl rfl (any_of HT_.out (by kernel_rfl)) (fun _ _ _ h => h) (Or.inl ⟨by rfl, ?_⟩) ?_ ?_
           rotate_left
           ·intro w'
            go_simp
            with_reducible rfl
           rotate_left
           ·simp only [Act.put, lA, lZ, lS, i64_w, i32_w]
            rfl
           refine pure_ (i := 3) (N := some 55) (v := ?_) (a' := ?_) #[true, true, true, true, false, false, false, false, false, false, false] rfl rfl (any_of HT_.out (by kernel_rfl)) (fun _ _ _ h => h) (Or.inl ⟨by rfl, ?_⟩) ?_ ?_
           rotate_left
           ·intro w'
            go_simp
            with_reducible rfl
           rotate_left
           ·simp only [Act.put, lA, lZ, lS, i64_w, i32_w]
            rfl
           refine pure_ (i := 4) (N := some 56) (v := ?_) (a' := ?_) #[true, true, true, true, true, false, false, false, false, false, false] rfl rfl (any_of HT_.out (by kernel_rfl)) (fun _ _ _ h => h) (Or.inl ⟨by rfl, ?_⟩) ?_ ?_
           rotate_left
           ·intro w'
            go_simp
            with_reducible rfl
           rotate_left
           ·simp only [Act.put, lA, lZ, lS, i64_w, i32_w]
            rfl
           refine pure_ (i := 6) (N := some 58) (v := ?_) (a' := ?_) #[true, true, true, true, true, false, true, false, false, false, false] rfl rfl (any_of HT_.out (by kernel_rfl)) (fun _ _ _ h => h) (Or.inl ⟨by rfl, ?_⟩) ?_ ?_
           rotate_left
           ·intro w'
            go_simp
            with_reducible rfl
           rotate_left
           ·simp only [Act.put, lA, lZ, lS, i64_w, i32_w]
            rfl
           refine pure_ (i := 7) (N := some 59) (v := ?_) (a' := ?_) #[true, true, true, true, true, false, true, true, false, false, false] rfl rfl (any_of HT_.out (by kernel_rfl)) (fun _ _ _ h => h) (Or.inl ⟨by rfl, ?_⟩) ?_ ?_
           rotate_left
           ·intro w'
            go_simp
            with_reducible rfl
           rotate_left
           ·simp only [Act.put, lA, lZ, lS, i64_w, i32_w]
            rfl
           refine take_ (i := 5) (N := some 57) (v := ?_) (a' := ?_) #[true, true, true, true, true, true, true, true, false, false, false] rfl rfl (take_ofW HT_.out HW_.out (by kernel_rfl)) (fun _ _ _ h => h) (Or.inl ⟨by rfl, ?_⟩) hHeld ?_ ?_
           rotate_left
           ·intro w' s0
            go_simp
            with_reducible rfl
           rotate_left
           ·simp only [Act.put, lA, lZ, lS, i64_w, i32_w]
            rfl
           refine pure_ (i := 8) (N := some 60) (v := ?_) (a' := ?_) #[true, true, true, true, true, true, true, true, true, false, false] rfl rfl (any_of HT_.out (by kernel_rfl)) (fun _ _ _ h => h) (Or.inl ⟨by rfl, ?_⟩) ?_ ?_
           rotate_left
           ·intro w'
            go_simp
            with_reducible rfl
           rotate_left
           ·simp only [Act.put, lA, lZ, lS, i64_w, i32_w]
            rfl
           refine pure_ (i := 9) (N := some 61) (v := ?_) (a' := ?_) #[true, true, true, true, true, true, true, true, true, true, false] rfl rfl (any_of HT_.out (by kernel_rfl)) (fun _ _ _ h => h) (Or.inl ⟨by rfl, ?_⟩) ?_ ?_
           rotate_left
           ·intro w'
            go_simp
            with_reducible rfl
           rotate_left
           ·simp only [Act.put, lA, lZ, lS, i64_w, i32_w]
            rfl
           refine last_ (i := 10) (N := none) #[true, true, true, true, true, true, true, true, true, true, true] rfl rfl (one_of HT_.out (by kernel_rfl)) (by decide) (fun K hK => ?_)
           refine skip_ (w1 := ?_) (by rfl) rfl ?_ ?_
           rotate_left
           ·go_simp
            rfl
           refine hK.out _ _ ?_
           clear hK K
           refine done_ (done_of HT_.out (by kernel_rfl)) ?_
           try go_wp2
           go_roundg k2
           case measure => have := HJ5.out; have := HK2.out; omega
           case rel => exact ⟨(y154), (wrap64 (x7_2 - 1)), (t150), (by first|rfl|(simp; done)|(simp [*]; done)), H', ⟨by have := HJ5.out; have := HK2.out; omega⟩, ⟨by (with_reducible repeat first|apply rA|apply rN|apply rD); exact HQ44.out⟩, ⟨by repeat (first|(with_reducible first|exact HI0.out|apply IsS60.alloc|apply IsS60.drewN|apply IsS60.drew|apply IsS60.set_1|refine IsS60.far ?_ HN0_go32.out _)|exact HI0.out)⟩, ⟨by repeat (first|(with_reducible first|exact HK.out|apply KeepBut.set_|apply keep_drewN|apply keep_drew|apply keep_alloc|refine keep_far ?_ GB32.out _)|exact HK.out)⟩, ⟨by repeat (first|(with_reducible first|exact HB.out|apply bA|apply bN|apply bD|refine below_set ?_ (Nat.le_trans HL.out GB32.out)|refine below_set ?_ (IsS60.ge HI0.out))|exact HB.out)⟩⟩
          ·rw [if_neg c33] at H
           exact absurd H (by simp)
         ·rw [if_neg c30] at H
          exact absurd H (by simp)
        ·rw [if_neg c29] at H
         exact absurd H (by simp)
       ·rw [if_neg c28] at H
        exact absurd H (by simp)
     ·rw [if_neg c22] at H
      have c22b0 : decide (0 < x7_2) = false := decide_eq_false c22
      clear c22
      replace H := Option.bind_eq_some_iff.mp H
      obtain ⟨⟨t155, t156⟩, A450, H⟩ := H
      replace H : (if t155 = true then ((spec_l20Rd_pick.f k2 s0_0 t156 3).bind fun bt157 => (if bt157.1 = 0 then (some ((([] : List Int)), bt157.2)) else (if bt157.1 = 1 then (if 0 < (x6_2.length : Int) then (some ((x6_2.set (0 : Int).toNat (Go.bits .or .i64 (rd x6_2 0) 1)), bt157.2)) else (none)) else (if 0 < (x6_2.length : Int) then (if 0 ≤ (wrap64 ((wrap64 (1 + t132)) - 1)) then ((some (x6_2.set (0 : Int).toNat (Go.bits .xor .i64 (rd x6_2 0) (shl .i64 1 (wrap64 ((wrap64 (1 + t132)) - 1)))) : List Int)).bind fun y165 => (if (wrap64 (1 + t132)) = 1 then (some ((y165.set (0 : Int).toNat (-1)), bt157.2)) else (some (y165, bt157.2)))) else (none)) else (none))))) else (some (x6_2, t156))) = some (r1, r2) := H
      have A45 := Aside0.mk A450
      clear A450
      by_cases c46 : t155 = true
      ·subst c46
       have H1 : ((spec_l20Rd_pick.f k2 s0_0 t156 3).bind fun bt157 => (if bt157.1 = 0 then (some ((([] : List Int)), bt157.2)) else (if bt157.1 = 1 then (if 0 < (x6_2.length : Int) then (some ((x6_2.set (0 : Int).toNat (Go.bits .or .i64 (rd x6_2 0) 1)), bt157.2)) else (none)) else (if 0 < (x6_2.length : Int) then (if 0 ≤ (wrap64 ((wrap64 (1 + t132)) - 1)) then ((some (x6_2.set (0 : Int).toNat (Go.bits .xor .i64 (rd x6_2 0) (shl .i64 1 (wrap64 ((wrap64 (1 + t132)) - 1)))) : List Int)).bind fun y165 => (if (wrap64 (1 + t132)) = 1 then (some ((y165.set (0 : Int).toNat (-1)), bt157.2)) else (some (y165, bt157.2)))) else (none)) else (none))))) = some (r1, r2) := by rw [if_pos rfl] at H; exact H
       clear H
       have H := H1
       clear H1
       replace H := Option.bind_eq_some_iff.mp H
       obtain ⟨⟨t157, t158⟩, A470, H⟩ := H
       replace H : (if t157 = 0 then (some ((([] : List Int)), t158)) else (if t157 = 1 then (if 0 < (x6_2.length : Int) then (some ((x6_2.set (0 : Int).toNat (Go.bits .or .i64 (rd x6_2 0) 1)), t158)) else (none)) else (if 0 < (x6_2.length : Int) then (if 0 ≤ (wrap64 ((wrap64 (1 + t132)) - 1)) then ((some (x6_2.set (0 : Int).toNat (Go.bits .xor .i64 (rd x6_2 0) (shl .i64 1 (wrap64 ((wrap64 (1 + t132)) - 1)))) : List Int)).bind fun y165 => (if (wrap64 (1 + t132)) = 1 then (some ((y165.set (0 : Int).toNat (-1)), t158)) else (some (y165, t158)))) else (none)) else (none)))) = some (r1, r2) := H
       have A47 := Aside0.mk A470
       clear A470
       by_cases c48 : t157 = 0
       ·rw [if_pos c48] at H
        have c48b0 : (t157 == 0) = true := beq_iff_eq.mpr c48
        have c48b1 : (t157 != 0) = false := bne_eq_false_iff_eq.mpr c48
        clear c48
        obtain ⟨y159, hy159⟩ : ∃ y_ : List Int, y_ = (([] : List Int)) := ⟨_, rfl⟩
        replace H : (some (y159, t158)) = some (r1, r2) := by first|(rw [hy159]; with_reducible exact H)|(have H2_ := (Option.bind_some _ _).symm.trans H; rw [hy159]; with_reducible exact H2_)|(have H2_ := (Option.bind_some _ _).symm.trans H; with_reducible exact H2_)|with_reducible exact H|(rw [hy159]; exact H)|exact H
        have Ny159 := Aside0.mk hy159
        clear hy159
        simp only [Option.some.injEq, Prod.mk.injEq] at H
        obtain ⟨rfl, rfl⟩ := H
        go_wp2_with (first|((with_reducible refine gate_callee (f:=64) rfl ?_);refine goesL_ (some 64) rfl rfl Try.func64 (by kernel_rfl) rfl #[.pointer (some ⟨g,0,none⟩),.int .i64 a1] rfl (by (try simp only [List.map_toArray,List.map_cons,List.map_nil]);first|done|rfl|(simp only [List.length_drop,List.length_take];rfl)) ?_;(with_reducible refine (spec_l20Rd_odd.calls k2 g s0_0 x1001_2 a1 true t156 w0 _ ?side1 ?side2 A45.out).mono ?_);(case side1 => repeat (first|(with_reducible first|exact HI0.out|apply IsS60.alloc|apply IsS60.drewN|apply IsS60.drew|apply IsS60.set_1)|exact HI0.out));(case side2 => repeat (first|(with_reducible first|exact HB.out|apply bA|apply bN|apply bD|refine below_set ?_ (IsS60.ge HI0.out))|exact HB.out));rintro e w49 ⟨rfl,hi,hb,hk⟩;refine ⟨_,rfl,?_⟩;have n0_:=Aside0.mk (Kd.R_mono (Kd.R_keep (IsS60.apart (show IsS60 w0 _ g s0_0 x1001_2 from by repeat (first|(with_reducible first|exact HI0.out|apply IsS60.alloc|apply IsS60.drewN|apply IsS60.drew|apply IsS60.set_1)|exact HI0.out)) (by (with_reducible repeat first|apply rA|apply rN|apply rD);exact HO_6.out) (by decide)) hk (fun _ h => h.2)) (fun _ h => h.1));have n1_:=Aside0.mk (KeepBut.trans (by repeat (first|(with_reducible first|exact HK.out|apply KeepBut.set_|apply keep_drewN|apply keep_drew|apply keep_alloc)|exact HK.out)) hk (.inl rfl));have n2_:=Aside0.mk (hb);have n3_:=Aside0.mk (hi);clear HO_6;clear HK;clear HB;clear HI0;have HO_6:=n0_;have HK:=n1_;have HB:=n2_;have HI0:=n3_;clear n0_ n1_ n2_ n3_;(try clear hb);(try clear hb2);(try clear hk);(try clear hi))|((with_reducible refine gate_callee (f:=52) rfl ?_);refine goesL_ (some 66) rfl rfl Try.func52 (by kernel_rfl) rfl #[.pointer (some ⟨g,0,none⟩),.int .i64 3] rfl (by (try simp only [List.map_toArray,List.map_cons,List.map_nil]);first|done|rfl|(simp only [List.length_drop,List.length_take];rfl)) ?_;(with_reducible refine (spec_l20Rd_pick.calls k2 g s0_0 t156 3 t157 t158 w0 _ ?side1 ?side2 A47.out).mono ?_);(case side1 => repeat (first|(with_reducible first|exact HI0.out|apply IsS60.alloc|apply IsS60.drewN|apply IsS60.drew|apply IsS60.set_1)|exact HI0.out));(case side2 => repeat (first|(with_reducible first|exact HB.out|apply bA|apply bN|apply bD|refine below_set ?_ (IsS60.ge HI0.out))|exact HB.out));rintro e w50 ⟨rfl,hi,hb,hk⟩;refine ⟨_,rfl,?_⟩;have n0_:=Aside0.mk (Kd.R_mono (Kd.R_keep (IsS60.apart (show IsS60 w0 _ g s0_0 t156 from by repeat (first|(with_reducible first|exact HI0.out|apply IsS60.alloc|apply IsS60.drewN|apply IsS60.drew|apply IsS60.set_1)|exact HI0.out)) (by (with_reducible repeat first|apply rA|apply rN|apply rD);exact HO_6.out) (by decide)) hk (fun _ h => h.2)) (fun _ h => h.1));have n1_:=Aside0.mk (KeepBut.trans (by repeat (first|(with_reducible first|exact HK.out|apply KeepBut.set_|apply keep_drewN|apply keep_drew|apply keep_alloc)|exact HK.out)) hk (.inl rfl));have n2_:=Aside0.mk (hb);have n3_:=Aside0.mk (hi);clear HO_6;clear HK;clear HB;clear HI0;have HO_6:=n0_;have HK:=n1_;have HB:=n2_;have HI0:=n3_;clear n0_ n1_ n2_ n3_;(try clear hb);(try clear hb2);(try clear hk);(try clear hi))|((with_reducible refine gate_dst (N:=82) rfl ?_);refine Kd.R_lit (Kd.int .i64) _ 3 ?hg (N:=82) ?hd (xs:=([] : List Int)) (inner:=[]) (ok:=fun _ => True) (okp:=fun _ => True) ?hr ?hp (fun _ hk => hk) trivial (Below.refl _ _) (Nat.le_refl _) (by simp) ?_;(case hd => rfl);(case hg => rfl);(case hr => first|(go_simp;done)|(go_simp;rfl));(case hp => exact (Reps.none _ _));intro v160 w51 ho52 hb hg_ hnew_;clear hg_ hnew_;(first|rw [← Ny159.out] at ho52|(simp only [Int.reduceToNat] at ho52;rw [← Ny159.out] at ho52));have n0_:=Aside0.mk (kE (by (with_reducible repeat first|apply rA|apply rN|apply rD);exact HO_6.out) (Kd.R_base ho52) hb);have n1_:=Aside0.mk (Kd.R_lower (kN ho52 (Kd.R_lt (by (with_reducible repeat first|apply rA|apply rN|apply rD);exact HO_6.out))) (keep_size (w:=w) (g:=g) (row:=none) (by repeat (first|(with_reducible first|exact HK.out|apply KeepBut.set_|apply keep_drewN|apply keep_drew|apply keep_alloc)|exact HK.out))));have n2_:=Aside0.mk (IsS60.below (by repeat (first|(with_reducible first|exact HI0.out|apply IsS60.alloc|apply IsS60.drewN|apply IsS60.drew|apply IsS60.set_1)|exact HI0.out)) hb);have n3_:=Aside0.mk (KeepBut.trans (by repeat (first|(with_reducible first|exact HK.out|apply KeepBut.set_|apply keep_drewN|apply keep_drew|apply keep_alloc)|exact HK.out)) (KeepBut.of_below hb g none) (.inl rfl));have n4_:=Aside0.mk (bT (by repeat (first|(with_reducible first|exact HB.out|apply bA|apply bN|apply bD|refine below_set ?_ (IsS60.ge HI0.out))|exact HB.out)) hb);clear HO_6;clear HI0;clear HK;clear HB;have HO_6:=n0_;have HO161:=n1_;have HI0:=n2_;have HK:=n3_;have HB:=n4_;clear n0_ n1_ n2_ n3_ n4_;clear hb ho52))
        go_ret
        exact ⟨_, by first|rfl|(simp [errW_none, errW_some] <;> rfl)|(simp [*, errW_none, errW_some] <;> rfl), by (with_reducible repeat first|apply rA|apply rN|apply rD); exact Kd.R_mono HO161.out (fun _ hk => trivial), by repeat (first|(with_reducible first|exact HI0.out|apply IsS60.alloc|apply IsS60.drewN|apply IsS60.drew|apply IsS60.set_1)|exact HI0.out), by repeat (first|(with_reducible first|exact HB.out|apply bA|apply bN|apply bD|refine below_set ?_ (IsS60.ge HI0.out))|exact HB.out), by repeat (first|(with_reducible first|exact HK.out|apply KeepBut.set_|apply keep_drewN|apply keep_drew|apply keep_alloc)|exact HK.out)⟩
       ·rw [if_neg c48] at H
        have c48b0 : (t157 == 0) = false := beq_eq_false_iff_ne.mpr c48
        have c48b1 : (t157 != 0) = true := bne_iff_ne.mpr c48
        by_cases c53 : t157 = 1
        ·rw [if_pos c53] at H
         have c53b0 : (t157 == 1) = true := beq_iff_eq.mpr c53
         have c53b1 : (t157 != 1) = false := bne_eq_false_iff_eq.mpr c53
         clear c53
         by_cases c54 : 0 < (x6_2.length : Int)
         ·rw [if_pos c54] at H
          have c54b0 : decide (0 < (x6_2.length : Int)) = true := decide_eq_true c54
          have c54b1 : decide (0 < x6_2.length) = true := decide_eq_true (by omega)
          clear c54
          obtain ⟨y163, hy163⟩ : ∃ y_ : List Int, y_ = (x6_2.set (0 : Int).toNat (Go.bits .or .i64 (rd x6_2 0) 1)) := ⟨_, rfl⟩
          replace H : (some (y163, t158)) = some (r1, r2) := by first|(rw [hy163]; with_reducible exact H)|(have H2_ := (Option.bind_some _ _).symm.trans H; rw [hy163]; with_reducible exact H2_)|(have H2_ := (Option.bind_some _ _).symm.trans H; with_reducible exact H2_)|with_reducible exact H|(rw [hy163]; exact H)|exact H
          have Ny163 := Aside0.mk hy163
          clear hy163
          simp only [Option.some.injEq, Prod.mk.injEq] at H
          obtain ⟨rfl, rfl⟩ := H
          go_wp2_with (first|((with_reducible refine gate_callee (f:=64) rfl ?_);refine goesL_ (some 64) rfl rfl Try.func64 (by kernel_rfl) rfl #[.pointer (some ⟨g,0,none⟩),.int .i64 a1] rfl (by (try simp only [List.map_toArray,List.map_cons,List.map_nil]);first|done|rfl|(simp only [List.length_drop,List.length_take];rfl)) ?_;(with_reducible refine (spec_l20Rd_odd.calls k2 g s0_0 x1001_2 a1 true t156 w0 _ ?side1 ?side2 A45.out).mono ?_);(case side1 => repeat (first|(with_reducible first|exact HI0.out|apply IsS60.alloc|apply IsS60.drewN|apply IsS60.drew|apply IsS60.set_1)|exact HI0.out));(case side2 => repeat (first|(with_reducible first|exact HB.out|apply bA|apply bN|apply bD|refine below_set ?_ (IsS60.ge HI0.out))|exact HB.out));rintro e w56 ⟨rfl,hi,hb,hk⟩;refine ⟨_,rfl,?_⟩;have n0_:=Aside0.mk (Kd.R_mono (Kd.R_keep (IsS60.apart (show IsS60 w0 _ g s0_0 x1001_2 from by repeat (first|(with_reducible first|exact HI0.out|apply IsS60.alloc|apply IsS60.drewN|apply IsS60.drew|apply IsS60.set_1)|exact HI0.out)) (by (with_reducible repeat first|apply rA|apply rN|apply rD);exact HO_6.out) (by decide)) hk (fun _ h => h.2)) (fun _ h => h.1));have n1_:=Aside0.mk (KeepBut.trans (by repeat (first|(with_reducible first|exact HK.out|apply KeepBut.set_|apply keep_drewN|apply keep_drew|apply keep_alloc)|exact HK.out)) hk (.inl rfl));have n2_:=Aside0.mk (hb);have n3_:=Aside0.mk (hi);clear HO_6;clear HK;clear HB;clear HI0;have HO_6:=n0_;have HK:=n1_;have HB:=n2_;have HI0:=n3_;clear n0_ n1_ n2_ n3_;(try clear hb);(try clear hb2);(try clear hk);(try clear hi))|((with_reducible refine gate_callee (f:=52) rfl ?_);refine goesL_ (some 66) rfl rfl Try.func52 (by kernel_rfl) rfl #[.pointer (some ⟨g,0,none⟩),.int .i64 3] rfl (by (try simp only [List.map_toArray,List.map_cons,List.map_nil]);first|done|rfl|(simp only [List.length_drop,List.length_take];rfl)) ?_;(with_reducible refine (spec_l20Rd_pick.calls k2 g s0_0 t156 3 t157 t158 w0 _ ?side1 ?side2 A47.out).mono ?_);(case side1 => repeat (first|(with_reducible first|exact HI0.out|apply IsS60.alloc|apply IsS60.drewN|apply IsS60.drew|apply IsS60.set_1)|exact HI0.out));(case side2 => repeat (first|(with_reducible first|exact HB.out|apply bA|apply bN|apply bD|refine below_set ?_ (IsS60.ge HI0.out))|exact HB.out));rintro e w57 ⟨rfl,hi,hb,hk⟩;refine ⟨_,rfl,?_⟩;have n0_:=Aside0.mk (Kd.R_mono (Kd.R_keep (IsS60.apart (show IsS60 w0 _ g s0_0 t156 from by repeat (first|(with_reducible first|exact HI0.out|apply IsS60.alloc|apply IsS60.drewN|apply IsS60.drew|apply IsS60.set_1)|exact HI0.out)) (by (with_reducible repeat first|apply rA|apply rN|apply rD);exact HO_6.out) (by decide)) hk (fun _ h => h.2)) (fun _ h => h.1));have n1_:=Aside0.mk (KeepBut.trans (by repeat (first|(with_reducible first|exact HK.out|apply KeepBut.set_|apply keep_drewN|apply keep_drew|apply keep_alloc)|exact HK.out)) hk (.inl rfl));have n2_:=Aside0.mk (hb);have n3_:=Aside0.mk (hi);clear HO_6;clear HK;clear HB;clear HI0;have HO_6:=n0_;have HK:=n1_;have HB:=n2_;have HI0:=n3_;clear n0_ n1_ n2_ n3_;(try clear hb);(try clear hb2);(try clear hk);(try clear hi);obtain ⟨Ao58,co58,eo58⟩:=kS HO_6.out;subst eo58;have p162 : 0 ≤ (0 : Int):=(by omega);have q162 : 0 < (x6_2.length : Int):=oD (by first|(with_reducible assumption)|assumption);obtain ⟨ad162,e162,hx162_0⟩:=aI (kR HO_6.out).2.2 0 p162 q162;cases e162;have qi162 : (0 < x6_2.length) = True:=eq_true (by omega);(try rw [show ((0 : Int)).toNat = 0 from rfl] at hx162_0);(try rw [Addr.add_zero'] at hx162_0);replace p162:=eq_true p162;replace q162:=eq_true q162;have p55 : 0 ≤ (0 : Int):=(by omega);have q55 : (0 : Int) < ((x6_2.length : Int) : Int):=oD (by first|(with_reducible assumption)|assumption);have qi55 : (0 < x6_2.length) = True:=eq_true (by omega);obtain ⟨go55,co55,eo55,gb55,gl55,cl55,HG55⟩:=Kd.R_form HO_6.out (by omega);(first|cases eo55|(injection eo55 with ea_ en_ ec_;(first|subst ea_|(injection ea_ with ea_;subst ea_));subst ec_;clear en_));have GB55:=Aside0.mk gb55;have GG55:=Aside0.mk HG55;clear gb55 gl55 HG55;(first|simp only [add_plain] at hx162_0|skip);obtain ⟨hx55_0,hf55_0⟩:=Kd.R_celln 0 HO_6.out (0 : Int) p55 q55;(try rw [show ((0 : Int)).toNat = 0 from rfl] at hx55_0);(try simp only [Nat.reduceMul,Nat.zero_mul,Nat.zero_add,Nat.reduceAdd] at hx55_0);(try rw [show ((0 : Int)).toNat = 0 from rfl] at hf55_0);(try simp only [Nat.reduceMul,Nat.zero_mul,Nat.zero_add,Nat.reduceAdd] at hf55_0);replace p55:=eq_true p55;replace q55:=eq_true q55;obtain ⟨hy59_,hz59_⟩:=Kd.R_celln 0 HO_6.out (0 : Int) (by omega) (oD (by first|(with_reducible assumption)|assumption));(try simp only [Int.reduceToNat,Int.toNat_zero,Int.toNat_ofNat,Nat.reduceMul,Nat.zero_mul,Nat.zero_add] at hy59_ hz59_);(try rw [show ((0 : Int)).toNat = 0 from rfl] at hy59_);(try rw [show ((0 : Int)).toNat = 0 from rfl] at hz59_);have HP59:=Kd.R_putg HO_6.out (0 : Int) (Go.bits .or .i64 (rd x6_2 0) 1))|((with_reducible refine gate_store (t:=3) (p:=90) rfl ?_);refine store_event (t:=3) (p:=90) (v:=?vo_w60) (w1:=(w57.setCell ⟨go55,(0 : Int).toNat,none⟩ (.int .i64 (Go.bits .or .i64 (rd x6_2 0) 1)))) ?hg ?ho ?hn ?hr ?_;(case ho => rfl);(case hg => rfl);(case hn => rfl);(case hr => first|(go_simp;done)|(go_simp;rfl));intro w60 hw;have hg : w57.grownBy w60 (some go55):=(by rw [hw];exact HP59.2);have hp_ : Kd.R (Kd.int .i64) 3 w60 w.heap.size (fun _ => True) (.slice (some ⟨go55,0,none⟩) x6_2.length co58) y163:=(by rw [hw,Ny163.out];exact HP59.1);clear HP59;have n0_:=Aside0.mk (hp_);have n1_:=Aside0.mk (IsS60.grown (by repeat (first|(with_reducible first|exact HI0.out|apply IsS60.alloc|apply IsS60.drewN|apply IsS60.drew|apply IsS60.set_1)|exact HI0.out)) hg (IsS60.own_ne HI0.out HO_6.out (by decide)));have n2_:=Aside0.mk ((by rw [hw];exact below_set (HB.out) (Nat.le_trans HL.out GB55.out) : Below w0.heap.size w0 w60));have n3_:=Aside0.mk (KeepBut.trans (by repeat (first|(with_reducible first|exact HK.out|apply KeepBut.set_|apply keep_drewN|apply keep_drew|apply keep_alloc)|exact HK.out)) (KeepBut.of_grown hg g) (Kd.R_base2 HO_6.out));clear HO_6;clear HI0;clear HB;clear HK;have HO_6:=n0_;have HI0:=n1_;have HB:=n2_;have HK:=n3_;clear n0_ n1_ n2_ n3_;clear hg hw hp_))
          go_ret
          exact ⟨_, by first|rfl|(simp [errW_none, errW_some] <;> rfl)|(simp [*, errW_none, errW_some] <;> rfl), by (with_reducible repeat first|apply rA|apply rN|apply rD); exact HO_6.out, by repeat (first|(with_reducible first|exact HI0.out|apply IsS60.alloc|apply IsS60.drewN|apply IsS60.drew|apply IsS60.set_1)|exact HI0.out), by repeat (first|(with_reducible first|exact HB.out|apply bA|apply bN|apply bD|refine below_set ?_ (IsS60.ge HI0.out))|exact HB.out), by repeat (first|(with_reducible first|exact HK.out|apply KeepBut.set_|apply keep_drewN|apply keep_drew|apply keep_alloc)|exact HK.out)⟩
         ·rw [if_neg c54] at H
          exact absurd H (by simp)
        ·rw [if_neg c53] at H
         have c53b0 : (t157 == 1) = false := beq_eq_false_iff_ne.mpr c53
         have c53b1 : (t157 != 1) = true := bne_iff_ne.mpr c53
         by_cases c61 : 0 < (x6_2.length : Int)
         ·rw [if_pos c61] at H
          have c61b0 : decide (0 < (x6_2.length : Int)) = true := decide_eq_true c61
          have c61b1 : decide (0 < x6_2.length) = true := decide_eq_true (by omega)
          clear c61
          obtain ⟨ji62, hji62⟩ : ∃ j_ : Int, (wrap64 ((wrap64 (1 + t132)) - 1)) = j_ := ⟨_, rfl⟩
          replace H : (if 0 ≤ (ji62) then ((some (x6_2.set (0 : Int).toNat (Go.bits .xor .i64 (rd x6_2 0) (shl .i64 1 (ji62))) : List Int)).bind fun y165 => (if (wrap64 (1 + t132)) = 1 then (some ((y165.set (0 : Int).toNat (-1)), t158)) else (some (y165, t158)))) else (none)) = some (r1, r2) := by first|(rw [hji62] at H; exact H)|(simp only [hji62] at H ⊢; exact H)
          (try rw [hji62] at A45)
          (try rw [hji62] at A47)
          have hji62w : (IntKind.i64.wrap ((wrap64 (1 + t132)) - 1)) = ji62 := (i64_w _).trans hji62
          by_cases c63 : 0 ≤ (ji62)
          ·rw [if_pos c63] at H
           have c63b0 := eq_true c63
           have c63b1 : decide (0 ≤ (ji62)) = true := decide_eq_true c63
           clear c63
           obtain ⟨ji64, hji64⟩ : ∃ j_ : Int, (shl .i64 1 (ji62)) = j_ := ⟨_, rfl⟩
           replace H : ((some (x6_2.set (0 : Int).toNat (Go.bits .xor .i64 (rd x6_2 0) (ji64)) : List Int)).bind fun y165 => (if (wrap64 (1 + t132)) = 1 then (some ((y165.set (0 : Int).toNat (-1)), t158)) else (some (y165, t158)))) = some (r1, r2) := by first|(rw [hji64] at H; exact H)|(simp only [hji64] at H ⊢; exact H)
           (try rw [hji64] at A45)
           (try rw [hji64] at A47)
           have hji64_ : (IntKind.i64.wrap (1 * 2 ^ min (ji62).toNat 64)) = ji64 := hji64
           have hji64z : (ji62) ≤ 64 → (IntKind.i64.wrap (1 * 2 ^ (ji62).toNat)) = ji64 := shl_small hji64
           have hji64u : (IntKind.i64.wrap (2 ^ min (ji62).toNat 64)) = ji64 := by have h_ := hji64_; rw [Int.one_mul] at h_; exact h_
           have hji64v : (ji62) ≤ 64 → (IntKind.i64.wrap (2 ^ (ji62).toNat)) = ji64 := fun hle_ => by have h_ := hji64z hle_; rw [Int.one_mul] at h_; exact h_
           have hji64y : (wrap64 (1 * 2 ^ min (ji62).toNat 64)) = ji64 := (i64_w _).symm.trans hji64_
           have hji64x : (ji62) ≤ 64 → (wrap64 (1 * 2 ^ (ji62).toNat)) = ji64 := fun h_ => (i64_w _).symm.trans (hji64z h_)
           obtain ⟨y165, hy165⟩ : ∃ y_ : List Int, y_ = (x6_2.set (0 : Int).toNat (Go.bits .xor .i64 (rd x6_2 0) (ji64))) := ⟨_, rfl⟩
           replace H : (if (wrap64 (1 + t132)) = 1 then (some ((y165.set (0 : Int).toNat (-1)), t158)) else (some (y165, t158))) = some (r1, r2) := by first|(rw [hy165]; with_reducible exact H)|(have H2_ := (Option.bind_some _ _).symm.trans H; rw [hy165]; with_reducible exact H2_)|(have H2_ := (Option.bind_some _ _).symm.trans H; with_reducible exact H2_)|with_reducible exact H|(rw [hy165]; exact H)|exact H
           have Ny165 := Aside0.mk hy165
           clear hy165
           by_cases c66 : (wrap64 (1 + t132)) = 1
           ·rw [if_pos c66] at H
            have c66b0 : ((wrap64 (1 + t132)) == 1) = true := beq_iff_eq.mpr c66
            have c66b1 : ((wrap64 (1 + t132)) != 1) = false := bne_eq_false_iff_eq.mpr c66
            clear c66
            obtain ⟨y166, hy166⟩ : ∃ y_ : List Int, y_ = (y165.set (0 : Int).toNat (-1)) := ⟨_, rfl⟩
            replace H : (some (y166, t158)) = some (r1, r2) := by first|(rw [hy166]; with_reducible exact H)|(have H2_ := (Option.bind_some _ _).symm.trans H; rw [hy166]; with_reducible exact H2_)|(have H2_ := (Option.bind_some _ _).symm.trans H; with_reducible exact H2_)|with_reducible exact H|(rw [hy166]; exact H)|exact H
            have Ny166 := Aside0.mk hy166
            clear hy166
            simp only [Option.some.injEq, Prod.mk.injEq] at H
            obtain ⟨rfl, rfl⟩ := H
            try go_wp2_with (first|((with_reducible refine gate_callee (f:=64) rfl ?_);refine goesL_ (some 64) rfl rfl Try.func64 (by kernel_rfl) rfl #[.pointer (some ⟨g,0,none⟩),.int .i64 a1] rfl (by (try simp only [List.map_toArray,List.map_cons,List.map_nil]);first|done|rfl|(simp only [List.length_drop,List.length_take];rfl)) ?_;(with_reducible refine (spec_l20Rd_odd.calls k2 g s0_0 x1001_2 a1 true t156 w0 _ ?side1 ?side2 A45.out).mono ?_);(case side1 => repeat (first|(with_reducible first|exact HI0.out|apply IsS60.alloc|apply IsS60.drewN|apply IsS60.drew|apply IsS60.set_1)|exact HI0.out));(case side2 => repeat (first|(with_reducible first|exact HB.out|apply bA|apply bN|apply bD|refine below_set ?_ (IsS60.ge HI0.out))|exact HB.out));rintro e w68 ⟨rfl,hi,hb,hk⟩;refine ⟨_,rfl,?_⟩;have n0_:=Aside0.mk (Kd.R_mono (Kd.R_keep (IsS60.apart (show IsS60 w0 _ g s0_0 x1001_2 from by repeat (first|(with_reducible first|exact HI0.out|apply IsS60.alloc|apply IsS60.drewN|apply IsS60.drew|apply IsS60.set_1)|exact HI0.out)) (by (with_reducible repeat first|apply rA|apply rN|apply rD);exact HO_6.out) (by decide)) hk (fun _ h => h.2)) (fun _ h => h.1));have n1_:=Aside0.mk (KeepBut.trans (by repeat (first|(with_reducible first|exact HK.out|apply KeepBut.set_|apply keep_drewN|apply keep_drew|apply keep_alloc)|exact HK.out)) hk (.inl rfl));have n2_:=Aside0.mk (hb);have n3_:=Aside0.mk (hi);clear HO_6;clear HK;clear HB;clear HI0;have HO_6:=n0_;have HK:=n1_;have HB:=n2_;have HI0:=n3_;clear n0_ n1_ n2_ n3_;(try clear hb);(try clear hb2);(try clear hk);(try clear hi))|((with_reducible refine gate_callee (f:=52) rfl ?_);refine goesL_ (some 66) rfl rfl Try.func52 (by kernel_rfl) rfl #[.pointer (some ⟨g,0,none⟩),.int .i64 3] rfl (by (try simp only [List.map_toArray,List.map_cons,List.map_nil]);first|done|rfl|(simp only [List.length_drop,List.length_take];rfl)) ?_;(with_reducible refine (spec_l20Rd_pick.calls k2 g s0_0 t156 3 t157 t158 w0 _ ?side1 ?side2 A47.out).mono ?_);(case side1 => repeat (first|(with_reducible first|exact HI0.out|apply IsS60.alloc|apply IsS60.drewN|apply IsS60.drew|apply IsS60.set_1)|exact HI0.out));(case side2 => repeat (first|(with_reducible first|exact HB.out|apply bA|apply bN|apply bD|refine below_set ?_ (IsS60.ge HI0.out))|exact HB.out));rintro e w69 ⟨rfl,hi,hb,hk⟩;refine ⟨_,rfl,?_⟩;have n0_:=Aside0.mk (Kd.R_mono (Kd.R_keep (IsS60.apart (show IsS60 w0 _ g s0_0 t156 from by repeat (first|(with_reducible first|exact HI0.out|apply IsS60.alloc|apply IsS60.drewN|apply IsS60.drew|apply IsS60.set_1)|exact HI0.out)) (by (with_reducible repeat first|apply rA|apply rN|apply rD);exact HO_6.out) (by decide)) hk (fun _ h => h.2)) (fun _ h => h.1));have n1_:=Aside0.mk (KeepBut.trans (by repeat (first|(with_reducible first|exact HK.out|apply KeepBut.set_|apply keep_drewN|apply keep_drew|apply keep_alloc)|exact HK.out)) hk (.inl rfl));have n2_:=Aside0.mk (hb);have n3_:=Aside0.mk (hi);clear HO_6;clear HK;clear HB;clear HI0;have HO_6:=n0_;have HK:=n1_;have HB:=n2_;have HI0:=n3_;clear n0_ n1_ n2_ n3_;(try clear hb);(try clear hb2);(try clear hk);(try clear hi)))
            have n0_ := Aside0.mk (Kd.R_drew HO_6.out)
            have n1_ := Aside0.mk (IsS60.drew HI0.out)
            have n2_ := Aside0.mk (keep_drew HK.out)
            have n3_ := Aside0.mk (below_drew1 HB.out)
            clear HO_6
            clear HI0
            clear HK
            clear HB
            have HO_6 := n0_
            have HI0 := n1_
            have HK := n2_
            have HB := n3_
            clear n0_ n1_ n2_ n3_
            obtain ⟨Ao71, co71, eo71⟩ := kS HO_6.out
            (first|subst eo71|(injection eo71 with f1_ f2_ f3_; have f4_ := f1_.symm; have f5_ := f3_.symm; clear f1_ f2_ f3_; subst f4_; subst f5_))
            have p164 : 0 ≤ (0 : Int) := (by omega)
            have q164 : 0 < (x6_2.length : Int) := oD (by first|(with_reducible assumption)|assumption)
            obtain ⟨ad164, e164, hx164_0⟩ := aI (kR HO_6.out).2.2 0 p164 q164
            cases e164
            have qi164 : (0 < x6_2.length) = True := eq_true (by omega)
            (try rw [show ((0 : Int)).toNat = 0 from rfl] at hx164_0)
            (try rw [Addr.add_zero'] at hx164_0)
            replace p164 := eq_true p164
            replace q164 := eq_true q164
            have p65 : 0 ≤ (0 : Int) := (by omega)
            have q65 : (0 : Int) < ((x6_2.length : Int) : Int) := oD (by first|(with_reducible assumption)|assumption)
            have qi65 : (0 < x6_2.length) = True := eq_true (by omega)
            obtain ⟨go65, co65, eo65, gb65, gl65, cl65, HG65⟩ := Kd.R_form HO_6.out (by omega)
            (first|cases eo65|(injection eo65 with ea_ en_ ec_; (first|subst ea_|(injection ea_ with ea_; subst ea_)); subst ec_; clear en_))
            have GB65 := Aside0.mk gb65
            have GG65 := Aside0.mk HG65
            clear gb65 gl65 HG65
            (first|simp only [add_plain] at hx164_0|skip)
            obtain ⟨hx65_0, hf65_0⟩ := Kd.R_celln 0 HO_6.out (0 : Int) p65 q65
            (try rw [show ((0 : Int)).toNat = 0 from rfl] at hx65_0)
            (try simp only [Nat.reduceMul, Nat.zero_mul, Nat.zero_add, Nat.reduceAdd] at hx65_0)
            (try rw [show ((0 : Int)).toNat = 0 from rfl] at hf65_0)
            (try simp only [Nat.reduceMul, Nat.zero_mul, Nat.zero_add, Nat.reduceAdd] at hf65_0)
            replace p65 := eq_true p65
            replace q65 := eq_true q65
            have HN0_go65 := Aside0.mk (show g ≠ go65 from by have h_ := IsS60.own_ne HI0.out HO_6.out (by decide); intro e_; exact h_ (by rw [e_]; rfl))
            have HP72 := Kd.R_putn HO_6.out (0 : Int) (Go.bits .xor .i64 (rd x6_2 0) (ji64))
            rw [← Ny165.out] at HP72
            have HQ72 := Aside0.mk HP72
            clear HP72
            refine start_ (n := 10) (S := fun w' => w'.cell? ⟨go65, 0, none⟩ = some (.int .i64 (rd x6_2 0))) (ds := [9]) #[false, false, false, false, false, false, false, false, false, false] (by kernel_rfl) rfl rfl (hx164_0) (fun hHeld => ?_); refine with_tabW spec_l20Net.tab19 spec_l20Net.bits19 (fun HT_ HW_ => ?_)
            generalize w69.drew = w70 at HO_6 HI0 HK HB GG65 HQ72 hf65_0 hx164_0 hx65_0 hHeld ⊢
            refine pure_ (i := 0) (N := some 67) (v := ?_) (a' := ?_) #[true, false, false, false, false, false, false, false, false, false] rfl rfl (any_of HT_.out (by kernel_rfl)) (fun _ _ _ h => h) (Or.inl ⟨by rfl, ?_⟩) ?_ ?_
            rotate_left
            ·intro w'
             go_simp
             with_reducible rfl
            rotate_left
            ·simp only [Act.put, lA, lZ, lS, i64_w, i32_w]
             rfl
            refine pure_ (i := 1) (N := some 68) (v := ?_) (a' := ?_) #[true, true, false, false, false, false, false, false, false, false] rfl rfl (any_of HT_.out (by kernel_rfl)) (fun _ _ _ h => h) (Or.inl ⟨by rfl, ?_⟩) ?_ ?_
            rotate_left
            ·intro w'
             go_simp
             with_reducible rfl
            rotate_left
            ·simp only [Act.put, lA, lZ, lS, i64_w, i32_w]
             rfl
            refine pure_ (i := 2) (N := some 69) (v := ?_) (a' := ?_) #[true, true, true, false, false, false, false, false, false, false] rfl rfl (any_of HT_.out (by kernel_rfl)) (fun _ _ _ h => h) (Or.inl ⟨by rfl, ?_⟩) ?_ ?_
            rotate_left
            ·intro w'
             go_simp
             with_reducible rfl
            rotate_left
            ·simp only [Act.put, lA, lZ, lS, i64_w, i32_w]
             rfl
            refine pure_ (i := 4) (N := some 71) (v := ?_) (a' := ?_) #[true, true, true, false, true, false, false, false, false, false] rfl rfl (any_of HT_.out (by kernel_rfl)) (fun _ _ _ h => h) (Or.inl ⟨by rfl, ?_⟩) ?_ ?_
            rotate_left
            ·intro w'
             go_simp
             with_reducible rfl
            rotate_left
            ·simp only [Act.put, lA, lZ, lS, i64_w, i32_w]
             rfl
            refine pure_ (i := 5) (N := some 72) (v := ?_) (a' := ?_) #[true, true, true, false, true, true, false, false, false, false] rfl rfl (any_of HT_.out (by kernel_rfl)) (fun _ _ _ h => h) (Or.inl ⟨by rfl, ?_⟩) ?_ ?_
            rotate_left
            ·intro w'
             go_simp
             with_reducible rfl
            rotate_left
            ·simp only [Act.put, lA, lZ, lS, i64_w, i32_w]
             rfl
            refine pure_ (i := 6) (N := some 73) (v := ?_) (a' := ?_) #[true, true, true, false, true, true, true, false, false, false] rfl rfl (any_of HT_.out (by kernel_rfl)) (fun _ _ _ h => h) (Or.inl ⟨by rfl, ?_⟩) ?_ ?_
            rotate_left
            ·intro w'
             go_simp
             with_reducible rfl
            rotate_left
            ·simp only [Act.put, lA, lZ, lS, i64_w, i32_w]
             rfl
            refine take_ (i := 3) (N := some 70) (v := ?_) (a' := ?_) #[true, true, true, true, true, true, true, false, false, false] rfl rfl (take_ofW HT_.out HW_.out (by kernel_rfl)) (fun _ _ _ h => h) (Or.inl ⟨by rfl, ?_⟩) hHeld ?_ ?_
            rotate_left
            ·intro w' s0
             go_simp
             with_reducible rfl
            rotate_left
            ·simp only [Act.put, lA, lZ, lS, i64_w, i32_w]
             rfl
            refine pure_ (i := 7) (N := some 74) (v := ?_) (a' := ?_) #[true, true, true, true, true, true, true, true, false, false] rfl rfl (any_of HT_.out (by kernel_rfl)) (fun _ _ _ h => h) (Or.inl ⟨by rfl, ?_⟩) ?_ ?_
            rotate_left
            ·intro w'
             go_simp
             with_reducible rfl
            rotate_left
            ·simp only [Act.put, lA, lZ, lS, i64_w, i32_w]
             rfl
            refine pure_ (i := 8) (N := some 75) (v := ?_) (a' := ?_) #[true, true, true, true, true, true, true, true, true, false] rfl rfl (any_of HT_.out (by kernel_rfl)) (fun _ _ _ h => h) (Or.inl ⟨by rfl, ?_⟩) ?_ ?_
            rotate_left
            ·intro w'
             go_simp
             with_reducible rfl
            rotate_left
            ·simp only [Act.put, lA, lZ, lS, i64_w, i32_w]
             rfl
            refine last_ (i := 9) (N := none) #[true, true, true, true, true, true, true, true, true, true] rfl rfl (one_of HT_.out (by kernel_rfl)) (by decide) (fun K hK => ?_)
            refine skip_ (w1 := ?_) (by rfl) rfl ?_ ?_
            rotate_left
            ·go_simp
             rfl
            refine hK.out _ _ ?_
            clear hK K
            refine done_ (done_of HT_.out (by kernel_rfl)) ?_
            have n0_ : Aside0 (Kd.R (Kd.int .i64) 3 (w70.setCell ⟨go65, 0, none⟩ (.int .i64 (Go.bits .xor .i64 (rd x6_2 0) (ji64)))) w.heap.size (fun _ => True) (.slice (some ⟨go65, 0, none⟩) x6_2.length co71) y165) := ⟨by (with_reducible repeat first|apply rA|apply rN|apply rD); exact HQ72.out⟩
            have n1_ : Aside0 (IsS60 w0 (w70.setCell ⟨go65, 0, none⟩ (.int .i64 (Go.bits .xor .i64 (rd x6_2 0) (ji64)))) g s0_0 t158) := ⟨by repeat (first|(with_reducible first|exact HI0.out|apply IsS60.alloc|apply IsS60.drewN|apply IsS60.drew|apply IsS60.set_1|refine IsS60.far ?_ HN0_go65.out _)|exact HI0.out)⟩
            have n2_ : Aside0 (KeepBut w (w70.setCell ⟨go65, 0, none⟩ (.int .i64 (Go.bits .xor .i64 (rd x6_2 0) (ji64)))) g none) := ⟨by repeat (first|(with_reducible first|exact HK.out|apply KeepBut.set_|apply keep_drewN|apply keep_drew|apply keep_alloc|refine keep_far ?_ GB65.out _)|exact HK.out)⟩
            have n3_ : Aside0 (Below w0.heap.size w0 (w70.setCell ⟨go65, 0, none⟩ (.int .i64 (Go.bits .xor .i64 (rd x6_2 0) (ji64))))) := ⟨by repeat (first|(with_reducible first|exact HB.out|apply bA|apply bN|apply bD|refine below_set ?_ (Nat.le_trans HL.out GB65.out)|refine below_set ?_ (IsS60.ge HI0.out))|exact HB.out)⟩
            (try clear HO_6)
            (try clear HI0)
            (try clear HK)
            (try clear HB)
            generalize (w70.setCell ⟨go65, 0, none⟩ (.int .i64 (Go.bits .xor .i64 (rd x6_2 0) (ji64)))) = w73 at n0_ n1_ n2_ n3_ ⊢
            have HO_6 := n0_
            have HI0 := n1_
            have HK := n2_
            have HB := n3_
            clear n0_ n1_ n2_ n3_
            have p67 : 0 ≤ (0 : Int) := (by omega)
            have q67 : (0 : Int) < ((x6_2.length : Int) : Int) := oD (by first|(with_reducible assumption)|assumption)
            replace p67 := eq_true p67
            replace q67 := eq_true q67
            obtain ⟨hy74_, hz74_⟩ := Kd.R_celln 0 HO_6.out (0 : Int) (by omega) (oD (by first|(with_reducible assumption)|assumption))
            (try simp only [Int.reduceToNat, Int.toNat_zero, Int.toNat_ofNat, Nat.reduceMul, Nat.zero_mul, Nat.zero_add] at hy74_ hz74_)
            (try rw [show ((0 : Int)).toNat = 0 from rfl] at hy74_)
            (try rw [show ((0 : Int)).toNat = 0 from rfl] at hz74_)
            have HP74 := Kd.R_putg HO_6.out (0 : Int) (-1)
            try go_wp2_with (first|((with_reducible refine gate_store (t:=3) (p:=79) rfl ?_);refine store_event (t:=3) (p:=79) (v:=?vo_w75) (w1:=(w73.setCell ⟨go65,(0 : Int).toNat,none⟩ (.int .i64 (-1)))) ?hg ?ho ?hn ?hr ?_;(case ho => rfl);(case hg => rfl);(case hn => rfl);(case hr => first|(go_simp;done)|(go_simp;rfl));intro w75 hw;have hg : w73.grownBy w75 (some go65):=(by rw [hw];exact HP74.2);have hp_ : Kd.R (Kd.int .i64) 3 w75 w.heap.size (fun _ => True) (.slice (some ⟨go65,0,none⟩) x6_2.length co71) y166:=(by rw [hw,Ny166.out];exact HP74.1);clear HP74;have n0_:=Aside0.mk (hp_);have n1_:=Aside0.mk (IsS60.grown (by repeat (first|(with_reducible first|exact HI0.out|apply IsS60.alloc|apply IsS60.drewN|apply IsS60.drew|apply IsS60.set_1)|exact HI0.out)) hg (IsS60.own_ne HI0.out HO_6.out (by decide)));have n2_:=Aside0.mk ((by rw [hw];exact below_set (HB.out) (Nat.le_trans HL.out GB65.out) : Below w0.heap.size w0 w75));have n3_:=Aside0.mk (KeepBut.trans (by repeat (first|(with_reducible first|exact HK.out|apply KeepBut.set_|apply keep_drewN|apply keep_drew|apply keep_alloc)|exact HK.out)) (KeepBut.of_grown hg g) (Kd.R_base2 HO_6.out));clear HO_6;clear HI0;clear HB;clear HK;have HO_6:=n0_;have HI0:=n1_;have HB:=n2_;have HK:=n3_;clear n0_ n1_ n2_ n3_;clear hg hw hp_))
            go_ret
            exact ⟨_, by first|rfl|(simp [errW_none, errW_some] <;> rfl)|(simp only [← hji62, ← hji64]; first|rfl|(simp [errW_none, errW_some] <;> rfl))|(simp [*, errW_none, errW_some] <;> rfl), by (with_reducible repeat first|apply rA|apply rN|apply rD); exact HO_6.out, by repeat (first|(with_reducible first|exact HI0.out|apply IsS60.alloc|apply IsS60.drewN|apply IsS60.drew|apply IsS60.set_1)|exact HI0.out), by repeat (first|(with_reducible first|exact HB.out|apply bA|apply bN|apply bD|refine below_set ?_ (IsS60.ge HI0.out))|exact HB.out), by repeat (first|(with_reducible first|exact HK.out|apply KeepBut.set_|apply keep_drewN|apply keep_drew|apply keep_alloc)|exact HK.out)⟩
           ·rw [if_neg c66] at H
            have c66b0 : ((wrap64 (1 + t132)) == 1) = false := beq_eq_false_iff_ne.mpr c66
            have c66b1 : ((wrap64 (1 + t132)) != 1) = true := bne_iff_ne.mpr c66
            simp only [Option.some.injEq, Prod.mk.injEq] at H
            obtain ⟨rfl, rfl⟩ := H
            try go_wp2_with (first|((with_reducible refine gate_callee (f:=64) rfl ?_);refine goesL_ (some 64) rfl rfl Try.func64 (by kernel_rfl) rfl #[.pointer (some ⟨g,0,none⟩),.int .i64 a1] rfl (by (try simp only [List.map_toArray,List.map_cons,List.map_nil]);first|done|rfl|(simp only [List.length_drop,List.length_take];rfl)) ?_;(with_reducible refine (spec_l20Rd_odd.calls k2 g s0_0 x1001_2 a1 true t156 w0 _ ?side1 ?side2 A45.out).mono ?_);(case side1 => repeat (first|(with_reducible first|exact HI0.out|apply IsS60.alloc|apply IsS60.drewN|apply IsS60.drew|apply IsS60.set_1)|exact HI0.out));(case side2 => repeat (first|(with_reducible first|exact HB.out|apply bA|apply bN|apply bD|refine below_set ?_ (IsS60.ge HI0.out))|exact HB.out));rintro e w76 ⟨rfl,hi,hb,hk⟩;refine ⟨_,rfl,?_⟩;have n0_:=Aside0.mk (Kd.R_mono (Kd.R_keep (IsS60.apart (show IsS60 w0 _ g s0_0 x1001_2 from by repeat (first|(with_reducible first|exact HI0.out|apply IsS60.alloc|apply IsS60.drewN|apply IsS60.drew|apply IsS60.set_1)|exact HI0.out)) (by (with_reducible repeat first|apply rA|apply rN|apply rD);exact HO_6.out) (by decide)) hk (fun _ h => h.2)) (fun _ h => h.1));have n1_:=Aside0.mk (KeepBut.trans (by repeat (first|(with_reducible first|exact HK.out|apply KeepBut.set_|apply keep_drewN|apply keep_drew|apply keep_alloc)|exact HK.out)) hk (.inl rfl));have n2_:=Aside0.mk (hb);have n3_:=Aside0.mk (hi);clear HO_6;clear HK;clear HB;clear HI0;have HO_6:=n0_;have HK:=n1_;have HB:=n2_;have HI0:=n3_;clear n0_ n1_ n2_ n3_;(try clear hb);(try clear hb2);(try clear hk);(try clear hi))|((with_reducible refine gate_callee (f:=52) rfl ?_);refine goesL_ (some 66) rfl rfl Try.func52 (by kernel_rfl) rfl #[.pointer (some ⟨g,0,none⟩),.int .i64 3] rfl (by (try simp only [List.map_toArray,List.map_cons,List.map_nil]);first|done|rfl|(simp only [List.length_drop,List.length_take];rfl)) ?_;(with_reducible refine (spec_l20Rd_pick.calls k2 g s0_0 t156 3 t157 t158 w0 _ ?side1 ?side2 A47.out).mono ?_);(case side1 => repeat (first|(with_reducible first|exact HI0.out|apply IsS60.alloc|apply IsS60.drewN|apply IsS60.drew|apply IsS60.set_1)|exact HI0.out));(case side2 => repeat (first|(with_reducible first|exact HB.out|apply bA|apply bN|apply bD|refine below_set ?_ (IsS60.ge HI0.out))|exact HB.out));rintro e w77 ⟨rfl,hi,hb,hk⟩;refine ⟨_,rfl,?_⟩;have n0_:=Aside0.mk (Kd.R_mono (Kd.R_keep (IsS60.apart (show IsS60 w0 _ g s0_0 t156 from by repeat (first|(with_reducible first|exact HI0.out|apply IsS60.alloc|apply IsS60.drewN|apply IsS60.drew|apply IsS60.set_1)|exact HI0.out)) (by (with_reducible repeat first|apply rA|apply rN|apply rD);exact HO_6.out) (by decide)) hk (fun _ h => h.2)) (fun _ h => h.1));have n1_:=Aside0.mk (KeepBut.trans (by repeat (first|(with_reducible first|exact HK.out|apply KeepBut.set_|apply keep_drewN|apply keep_drew|apply keep_alloc)|exact HK.out)) hk (.inl rfl));have n2_:=Aside0.mk (hb);have n3_:=Aside0.mk (hi);clear HO_6;clear HK;clear HB;clear HI0;have HO_6:=n0_;have HK:=n1_;have HB:=n2_;have HI0:=n3_;clear n0_ n1_ n2_ n3_;(try clear hb);(try clear hb2);(try clear hk);(try clear hi)))
            have n0_ := Aside0.mk (Kd.R_drew HO_6.out)
            have n1_ := Aside0.mk (IsS60.drew HI0.out)
            have n2_ := Aside0.mk (keep_drew HK.out)
            have n3_ := Aside0.mk (below_drew1 HB.out)
            clear HO_6
            clear HI0
            clear HK
            clear HB
            have HO_6 := n0_
            have HI0 := n1_
            have HK := n2_
            have HB := n3_
            clear n0_ n1_ n2_ n3_
            obtain ⟨Ao79, co79, eo79⟩ := kS HO_6.out
            (first|subst eo79|(injection eo79 with f1_ f2_ f3_; have f4_ := f1_.symm; have f5_ := f3_.symm; clear f1_ f2_ f3_; subst f4_; subst f5_))
            have p164 : 0 ≤ (0 : Int) := (by omega)
            have q164 : 0 < (x6_2.length : Int) := oD (by first|(with_reducible assumption)|assumption)
            obtain ⟨ad164, e164, hx164_0⟩ := aI (kR HO_6.out).2.2 0 p164 q164
            cases e164
            have qi164 : (0 < x6_2.length) = True := eq_true (by omega)
            (try rw [show ((0 : Int)).toNat = 0 from rfl] at hx164_0)
            (try rw [Addr.add_zero'] at hx164_0)
            replace p164 := eq_true p164
            replace q164 := eq_true q164
            have p65 : 0 ≤ (0 : Int) := (by omega)
            have q65 : (0 : Int) < ((x6_2.length : Int) : Int) := oD (by first|(with_reducible assumption)|assumption)
            have qi65 : (0 < x6_2.length) = True := eq_true (by omega)
            obtain ⟨go65, co65, eo65, gb65, gl65, cl65, HG65⟩ := Kd.R_form HO_6.out (by omega)
            (first|cases eo65|(injection eo65 with ea_ en_ ec_; (first|subst ea_|(injection ea_ with ea_; subst ea_)); subst ec_; clear en_))
            have GB65 := Aside0.mk gb65
            have GG65 := Aside0.mk HG65
            clear gb65 gl65 HG65
            (first|simp only [add_plain] at hx164_0|skip)
            obtain ⟨hx65_0, hf65_0⟩ := Kd.R_celln 0 HO_6.out (0 : Int) p65 q65
            (try rw [show ((0 : Int)).toNat = 0 from rfl] at hx65_0)
            (try simp only [Nat.reduceMul, Nat.zero_mul, Nat.zero_add, Nat.reduceAdd] at hx65_0)
            (try rw [show ((0 : Int)).toNat = 0 from rfl] at hf65_0)
            (try simp only [Nat.reduceMul, Nat.zero_mul, Nat.zero_add, Nat.reduceAdd] at hf65_0)
            replace p65 := eq_true p65
            replace q65 := eq_true q65
            have HN0_go65 := Aside0.mk (show g ≠ go65 from by have h_ := IsS60.own_ne HI0.out HO_6.out (by decide); intro e_; exact h_ (by rw [e_]; rfl))
            have HP80 := Kd.R_putn HO_6.out (0 : Int) (Go.bits .xor .i64 (rd x6_2 0) (ji64))
            rw [← Ny165.out] at HP80
            have HQ80 := Aside0.mk HP80
            clear HP80
            refine start_ (n := 10) (S := fun w' => w'.cell? ⟨go65, 0, none⟩ = some (.int .i64 (rd x6_2 0))) (ds := [9]) #[false, false, false, false, false, false, false, false, false, false] (by kernel_rfl) rfl rfl (hx164_0) (fun hHeld => ?_); refine with_tabW spec_l20Net.tab19 spec_l20Net.bits19 (fun HT_ HW_ => ?_)
            generalize w77.drew = w78 at HO_6 HI0 HK HB GG65 HQ80 hf65_0 hx164_0 hx65_0 hHeld ⊢
            refine pure_ (i := 0) (N := some 67) (v := ?_) (a' := ?_) #[true, false, false, false, false, false, false, false, false, false] rfl rfl (any_of HT_.out (by kernel_rfl)) (fun _ _ _ h => h) (Or.inl ⟨by rfl, ?_⟩) ?_ ?_
            rotate_left
            ·intro w'
             go_simp
             with_reducible rfl
            rotate_left
            ·simp only [Act.put, lA, lZ, lS, i64_w, i32_w]
             rfl
            refine pure_ (i := 1) (N := some 68) (v := ?_) (a' := ?_) #[true, true, false, false, false, false, false, false, false, false] rfl rfl (any_of HT_.out (by kernel_rfl)) (fun _ _ _ h => h) (Or.inl ⟨by rfl, ?_⟩) ?_ ?_
            rotate_left
            ·intro w'
             go_simp
             with_reducible rfl
            rotate_left
            ·simp only [Act.put, lA, lZ, lS, i64_w, i32_w]
             rfl
            refine pure_ (i := 2) (N := some 69) (v := ?_) (a' := ?_) #[true, true, true, false, false, false, false, false, false, false] rfl rfl (any_of HT_.out (by kernel_rfl)) (fun _ _ _ h => h) (Or.inl ⟨by rfl, ?_⟩) ?_ ?_
            rotate_left
            ·intro w'
             go_simp
             with_reducible rfl
            rotate_left
            ·simp only [Act.put, lA, lZ, lS, i64_w, i32_w]
             rfl
            refine pure_ (i := 4) (N := some 71) (v := ?_) (a' := ?_) #[true, true, true, false, true, false, false, false, false, false] rfl rfl (any_of HT_.out (by kernel_rfl)) (fun _ _ _ h => h) (Or.inl ⟨by rfl, ?_⟩) ?_ ?_
            rotate_left
            ·intro w'
             go_simp
             with_reducible rfl
            rotate_left
            ·simp only [Act.put, lA, lZ, lS, i64_w, i32_w]
             rfl
            refine pure_ (i := 5) (N := some 72) (v := ?_) (a' := ?_) #[true, true, true, false, true, true, false, false, false, false] rfl rfl (any_of HT_.out (by kernel_rfl)) (fun _ _ _ h => h) (Or.inl ⟨by rfl, ?_⟩) ?_ ?_
            rotate_left
            ·intro w'
             go_simp
             with_reducible rfl
            rotate_left
            ·simp only [Act.put, lA, lZ, lS, i64_w, i32_w]
             rfl
            refine pure_ (i := 6) (N := some 73) (v := ?_) (a' := ?_) #[true, true, true, false, true, true, true, false, false, false] rfl rfl (any_of HT_.out (by kernel_rfl)) (fun _ _ _ h => h) (Or.inl ⟨by rfl, ?_⟩) ?_ ?_
            rotate_left
            ·intro w'
             go_simp
             with_reducible rfl
            rotate_left
            ·simp only [Act.put, lA, lZ, lS, i64_w, i32_w]
             rfl
            refine take_ (i := 3) (N := some 70) (v := ?_) (a' := ?_) #[true, true, true, true, true, true, true, false, false, false] rfl rfl (take_ofW HT_.out HW_.out (by kernel_rfl)) (fun _ _ _ h => h) (Or.inl ⟨by rfl, ?_⟩) hHeld ?_ ?_
            rotate_left
            ·intro w' s0
             go_simp
             with_reducible rfl
            rotate_left
            ·simp only [Act.put, lA, lZ, lS, i64_w, i32_w]
             rfl
            refine pure_ (i := 7) (N := some 74) (v := ?_) (a' := ?_) #[true, true, true, true, true, true, true, true, false, false] rfl rfl (any_of HT_.out (by kernel_rfl)) (fun _ _ _ h => h) (Or.inl ⟨by rfl, ?_⟩) ?_ ?_
            rotate_left
            ·intro w'
             go_simp
             with_reducible rfl
            rotate_left
            ·simp only [Act.put, lA, lZ, lS, i64_w, i32_w]
             rfl
            refine pure_ (i := 8) (N := some 75) (v := ?_) (a' := ?_) #[true, true, true, true, true, true, true, true, true, false] rfl rfl (any_of HT_.out (by kernel_rfl)) (fun _ _ _ h => h) (Or.inl ⟨by rfl, ?_⟩) ?_ ?_
            rotate_left
            ·intro w'
             go_simp
             with_reducible rfl
            rotate_left
            ·simp only [Act.put, lA, lZ, lS, i64_w, i32_w]
             rfl
            refine last_ (i := 9) (N := none) #[true, true, true, true, true, true, true, true, true, true] rfl rfl (one_of HT_.out (by kernel_rfl)) (by decide) (fun K hK => ?_)
            refine skip_ (w1 := ?_) (by rfl) rfl ?_ ?_
            rotate_left
            ·go_simp
             rfl
            refine hK.out _ _ ?_
            clear hK K
            refine done_ (done_of HT_.out (by kernel_rfl)) ?_
            try go_wp2
            go_ret
            exact ⟨_, by first|rfl|(simp [errW_none, errW_some] <;> rfl)|(simp only [← hji62, ← hji64]; first|rfl|(simp [errW_none, errW_some] <;> rfl))|(simp [*, errW_none, errW_some] <;> rfl), by (with_reducible repeat first|apply rA|apply rN|apply rD); exact HQ80.out, by repeat (first|(with_reducible first|exact HI0.out|apply IsS60.alloc|apply IsS60.drewN|apply IsS60.drew|apply IsS60.set_1|refine IsS60.far ?_ HN0_go65.out _)|exact HI0.out), by repeat (first|(with_reducible first|exact HB.out|apply bA|apply bN|apply bD|refine below_set ?_ (Nat.le_trans HL.out GB65.out)|refine below_set ?_ (IsS60.ge HI0.out))|exact HB.out), by repeat (first|(with_reducible first|exact HK.out|apply KeepBut.set_|apply keep_drewN|apply keep_drew|apply keep_alloc|refine keep_far ?_ GB65.out _)|exact HK.out)⟩
          ·rw [if_neg c63] at H
           exact absurd H (by simp)
         ·rw [if_neg c61] at H
          exact absurd H (by simp)
      ·replace c46 := Bool.eq_false_iff.mpr c46
       subst c46
       have H1 : (some (x6_2, t156)) = some (r1, r2) := by rw [if_neg (show ¬ (false = true) by decide)] at H; exact H
       clear H
       have H := H1
       clear H1
       simp only [Option.some.injEq, Prod.mk.injEq] at H
       obtain ⟨rfl, rfl⟩ := H
       go_wp2_with (first|((with_reducible refine gate_callee (f:=64) rfl ?_);refine goesL_ (some 64) rfl rfl Try.func64 (by kernel_rfl) rfl #[.pointer (some ⟨g,0,none⟩),.int .i64 a1] rfl (by (try simp only [List.map_toArray,List.map_cons,List.map_nil]);first|done|rfl|(simp only [List.length_drop,List.length_take];rfl)) ?_;(with_reducible refine (spec_l20Rd_odd.calls k2 g s0_0 x1001_2 a1 false t156 w0 _ ?side1 ?side2 A45.out).mono ?_);(case side1 => repeat (first|(with_reducible first|exact HI0.out|apply IsS60.alloc|apply IsS60.drewN|apply IsS60.drew|apply IsS60.set_1)|exact HI0.out));(case side2 => repeat (first|(with_reducible first|exact HB.out|apply bA|apply bN|apply bD|refine below_set ?_ (IsS60.ge HI0.out))|exact HB.out));rintro e w81 ⟨rfl,hi,hb,hk⟩;refine ⟨_,rfl,?_⟩;have n0_:=Aside0.mk (Kd.R_mono (Kd.R_keep (IsS60.apart (show IsS60 w0 _ g s0_0 x1001_2 from by repeat (first|(with_reducible first|exact HI0.out|apply IsS60.alloc|apply IsS60.drewN|apply IsS60.drew|apply IsS60.set_1)|exact HI0.out)) (by (with_reducible repeat first|apply rA|apply rN|apply rD);exact HO_6.out) (by decide)) hk (fun _ h => h.2)) (fun _ h => h.1));have n1_:=Aside0.mk (KeepBut.trans (by repeat (first|(with_reducible first|exact HK.out|apply KeepBut.set_|apply keep_drewN|apply keep_drew|apply keep_alloc)|exact HK.out)) hk (.inl rfl));have n2_:=Aside0.mk (hb);have n3_:=Aside0.mk (hi);clear HO_6;clear HK;clear HB;clear HI0;have HO_6:=n0_;have HK:=n1_;have HB:=n2_;have HI0:=n3_;clear n0_ n1_ n2_ n3_;(try clear hb);(try clear hb2);(try clear hk);(try clear hi)))
       go_ret
       exact ⟨_, by first|rfl|(simp [errW_none, errW_some] <;> rfl)|(simp [*, errW_none, errW_some] <;> rfl), by (with_reducible repeat first|apply rA|apply rN|apply rD); exact HO_6.out, by repeat (first|(with_reducible first|exact HI0.out|apply IsS60.alloc|apply IsS60.drewN|apply IsS60.drew|apply IsS60.set_1)|exact HI0.out), by repeat (first|(with_reducible first|exact HB.out|apply bA|apply bN|apply bD|refine below_set ?_ (IsS60.ge HI0.out))|exact HB.out), by repeat (first|(with_reducible first|exact HK.out|apply KeepBut.set_|apply keep_drewN|apply keep_drew|apply keep_alloc)|exact HK.out)⟩

end Go.Proofs.Ytcjjiajcjooccaa.PFnClimbRound
