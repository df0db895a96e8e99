-- Written by a program of this session (the kit's print, changed).
import Derived.Test.YtcjjiajcjooccaaSq
import Derived.Test.YtcjjiajcjooccaaPFnClimbRoundx0
import Derived.Test.YtcjjiajcjooccaaPFnClimbRoundx1
import Derived.Test.YtcjjiajcjooccaaPFnClimbRoundx3
namespace Go.Proofs.Ytcjjiajcjooccaa.PFnClimbRound
open Go.RowKit Go.Proofs.YtcjjiajcjooccaaW.PrintWords Go.Proofs.YtcjjiajcjooccaaW.PrintLast Go.Proofs.YtcjjiajcjooccaaW.PrintMore
attribute [local go_sem] max2_int min2_int max_two min_two max_three min_three max_four min_four   -- for this text's walks alone
set_option linter.unusedVariables false
set_option linter.unusedSimpArgs false

/-! ### spec_l20State: function 63 -/
def spec_l20State.l0 : Nat → Int → Int → Int → List Int → Int → Int → List Int → Int → Option (List Int × Int)
 | 0, _, _, _, _, _, _, _, _ => none
 | k + 1, x1, x2, x3, x9, x10, x11, x1000, x1001 => if x11 < x1 then (if x10 > 0 then ((spec_l20Rd_pick.f k x1000 x1001 3).bind fun bt172 => (if bt172.1 < x10 then (if x9.length < 17592186044416 then (spec_l20State.l0 k x1 x2 x3 (x9 ++ [0]) x10 (wrap64 (x11 + 1)) x1000 bt172.2) else (none)) else ((spec_l20Rd_pick.f k x1000 bt172.2 x2).bind fun bt177 => (if x9.length < 17592186044416 then (spec_l20State.l0 k x1 x2 x3 (x9 ++ [bt177.1]) x10 (wrap64 (x11 + 1)) x1000 bt177.2) else (none))))) else ((spec_l20Rd_pick.f k x1000 x1001 x2).bind fun bt182 => (if x9.length < 17592186044416 then (spec_l20State.l0 k x1 x2 x3 (x9 ++ [bt182.1]) x10 (wrap64 (x11 + 1)) x1000 bt182.2) else (none)))) else ((spec_l20Rd_odd.f k x1000 x1001 x3).bind fun bt187 => (if bt187.1 = true then ((spec_l20Rd_pick.f k x1000 bt187.2 2).bind fun bt189 => (if bt189.1 = 0 then (some ((([] : List Int)), bt189.2)) else (if 0 ≤ (wrap64 ((x9.length : Int) - 1)) then (if (wrap64 ((x9.length : Int) - 1)) < (x9.length : Int) then (some ((x9.set ((wrap64 ((x9.length : Int) - 1)) : Int).toNat x2), bt189.2)) else (none)) else (none)))) else (some (x9, bt187.2))))
def spec_l20State.f (k : Nat) (s0_0 : List Int) (s0_1 : Int) (a1 : Int) (a2 : Int) (a3 : Int) : Option (List Int × Int) := (spec_l20Rd_pick.f k s0_0 s0_1 3).bind fun bt170 => (spec_l20State.l0 k a1 a2 a3 (([] : List Int)) bt170.1 0 s0_0 bt170.2)
theorem spec_l20State.mono_l : ∀ k, (∀ y0 y1 y2 y3 y4 y5 y6 y7, LeO (spec_l20State.l0 k y0 y1 y2 y3 y4 y5 y6 y7) (spec_l20State.l0 (k + 1) y0 y1 y2 y3 y4 y5 y6 y7))
 | 0 => fun _ _ _ _ _ _ _ _ r h => by simp [spec_l20State.l0] at h
 | k + 1 => by
  have ih0 := spec_l20State.mono_l k
  ·intro y0 y1 y2 y3 y4 y5 y6 y7
   unfold spec_l20State.l0
   repeat' first|(with_reducible first|exact ih0 _ _ _ _ _ _ _ _|exact spec_l20Rd_odd.mono _ _ _ _|exact spec_l20Rd_pick.mono _ _ _ _|exact LeO.refl _|exact LeO.none _|refine LeO.ite ?_ ?_|refine LeO.bind ?_ (fun _ => ?_))|exact ih0 _ _ _ _ _ _ _ _|exact spec_l20Rd_odd.mono _ _ _ _|exact spec_l20Rd_pick.mono _ _ _ _|exact LeO.none _|refine LeO.ite ?_ ?_|refine LeO.bind ?_ (fun _ => ?_)
theorem spec_l20State.mono : ∀ a0 a1 a2 a3 a4 k, LeO (spec_l20State.f k a0 a1 a2 a3 a4) (spec_l20State.f (k + 1) a0 a1 a2 a3 a4) := by
 intro a0 a1 a2 a3 a4 k
 have ih0 := spec_l20State.mono_l k
 unfold spec_l20State.f
 repeat' first|(with_reducible first|exact ih0 _ _ _ _ _ _ _ _|exact spec_l20Rd_odd.mono _ _ _ _|exact spec_l20Rd_pick.mono _ _ _ _|exact LeO.refl _|exact LeO.none _|refine LeO.ite ?_ ?_|refine LeO.bind ?_ (fun _ => ?_))|exact ih0 _ _ _ _ _ _ _ _|exact spec_l20Rd_odd.mono _ _ _ _|exact spec_l20Rd_pick.mono _ _ _ _|exact LeO.none _|refine LeO.ite ?_ ?_|refine LeO.bind ?_ (fun _ => ?_)
set_option maxHeartbeats 8000000 in
set_option maxRecDepth 100000 in
theorem spec_l20State.calls (k : Nat) (g : Nat) (s0_0 : List Int) (s0_1 : Int) (a1 : Int) (a2 : Int) (a3 : Int) (r1 : List Int) (r2 : Int) (w0 w : World) (hI : IsS60 w0 w g s0_0 s0_1) (hB : Below w0.heap.size w0 w) (h : spec_l20State.f k s0_0 s0_1 a1 a2 a3 = some (r1, r2)) :
  Calls Try.prog 63 #[.pointer (some ⟨g, 0, none⟩), .int .i64 a1, .int .i64 a2, .int .i64 a3] w fun e w' => ∃ v0_ : Value, e = .returned (v0_) ∧ Kd.R (Kd.int .i64) 3 w' w.heap.size (fun _ => True) v0_ r1 ∧ IsS60 w0 w' g s0_0 r2 ∧ Below w0.heap.size w0 w' ∧ KeepBut w w' g none := by
 have HI0 := Aside0.mk hI
 have HK := Aside0.mk (KeepBut.refl w g none)
 have HL := Aside0.mk hB.size
 clear hI
 have HW0 := Aside0.mk hB.size
 have HB := Aside0.mk hB
 clear hB
 have H : ((spec_l20Rd_pick.f k s0_0 s0_1 3).bind fun bt170 => (spec_l20State.l0 k a1 a2 a3 (([] : List Int)) bt170.1 0 s0_0 bt170.2)) = some (r1, r2) := h
 clear h
 obtain ⟨y167, hy167⟩ : ∃ y_ : List Int, y_ = (([] : List Int)) := ⟨_, rfl⟩
 replace H : ((spec_l20Rd_pick.f k s0_0 s0_1 3).bind fun bt170 => (spec_l20State.l0 k a1 a2 a3 y167 bt170.1 0 s0_0 bt170.2)) = some (r1, r2) := by first|(rw [hy167]; with_reducible exact H)|(have H2_ := (Option.bind_some _ _).symm.trans H; rw [hy167]; with_reducible exact H2_)|(have H2_ := (Option.bind_some _ _).symm.trans H; with_reducible exact H2_)|with_reducible exact H|(rw [hy167]; exact H)|exact H
 have Ny167 := Aside0.mk hy167
 clear hy167
 replace H := Option.bind_eq_some_iff.mp H
 obtain ⟨⟨t170, t171⟩, A50, H⟩ := H
 replace H : (spec_l20State.l0 k a1 a2 a3 y167 t170 0 s0_0 t171) = some (r1, r2) := H
 have A5 := Aside0.mk A50
 clear A50
 have H' := Aside0.mk H
 clear H
 go_enter Try.func63, Try.ntmps63
 go_wp2_with (first|((with_reducible refine gate_dst (N:=12) rfl ?_);refine Kd.R_lit (Kd.int .i64) _ 3 ?hg (N:=12) ?hd (xs:=([] : List Int)) (inner:=[]) (ok:=fun _ => True) (okp:=fun _ => True) ?hr ?hp (fun _ hk => hk) trivial (Below.refl _ _) (Nat.le_refl _) (by simp) ?_;(case hd => rfl);(case hg => rfl);(case hr => first|(go_simp;done)|(go_simp;rfl));(case hp => exact (Reps.none _ _));intro v168 w6 ho7 hb hg_ hnew_;clear hg_ hnew_;(first|rw [← Ny167.out] at ho7|(simp only [Int.reduceToNat] at ho7;rw [← Ny167.out] at ho7));have n0_:=Aside0.mk (Kd.R_lower ho7 (keep_size (w:=w) (g:=g) (row:=none) (by repeat (first|(with_reducible first|exact HK.out|apply KeepBut.set_|apply keep_drewN|apply keep_drew|apply keep_alloc)|exact HK.out))));have n1_:=Aside0.mk (IsS60.below (by repeat (first|(with_reducible first|exact HI0.out|apply IsS60.alloc|apply IsS60.drewN|apply IsS60.drew|apply IsS60.set_1)|exact HI0.out)) hb);have n2_:=Aside0.mk (KeepBut.trans (by repeat (first|(with_reducible first|exact HK.out|apply KeepBut.set_|apply keep_drewN|apply keep_drew|apply keep_alloc)|exact HK.out)) (KeepBut.of_below hb g none) (.inl rfl));have n3_:=Aside0.mk (bT (by repeat (first|(with_reducible first|exact HB.out|apply bA|apply bN|apply bD|refine below_set ?_ (IsS60.ge HI0.out))|exact HB.out)) hb);clear HI0;clear HK;clear HB;have HO169:=n0_;have HI0:=n1_;have HK:=n2_;have HB:=n3_;clear n0_ n1_ n2_ n3_;clear hb ho7)|((with_reducible refine gate_callee (f:=52) rfl ?_);refine goesL_ (some 14) rfl rfl Try.func52 (by kernel_rfl) rfl #[.pointer (some ⟨g,0,none⟩),.int .i64 3] rfl (by (try simp only [List.map_toArray,List.map_cons,List.map_nil]);first|done|rfl|(simp only [List.length_drop,List.length_take];rfl)) ?_;(with_reducible refine (spec_l20Rd_pick.calls k g s0_0 s0_1 3 t170 t171 w0 _ ?side1 ?side2 A5.out).mono ?_);(case side1 => repeat (first|(with_reducible first|exact HI0.out|apply IsS60.alloc|apply IsS60.drewN|apply IsS60.drew|apply IsS60.set_1)|exact HI0.out));(case side2 => repeat (first|(with_reducible first|exact HB.out|apply bA|apply bN|apply bD|refine below_set ?_ (IsS60.ge HI0.out))|exact HB.out));rintro e w8 ⟨rfl,hi,hb,hk⟩;refine ⟨_,rfl,?_⟩;have n0_:=Aside0.mk (Kd.R_mono (Kd.R_keep (IsS60.apart (show IsS60 w0 _ g s0_0 s0_1 from by repeat (first|(with_reducible first|exact HI0.out|apply IsS60.alloc|apply IsS60.drewN|apply IsS60.drew|apply IsS60.set_1)|exact HI0.out)) (by (with_reducible repeat first|apply rA|apply rN|apply rD);exact HO169.out) (by decide)) hk (fun _ h => h.2)) (fun _ h => h.1));have n1_:=Aside0.mk (KeepBut.trans (by repeat (first|(with_reducible first|exact HK.out|apply KeepBut.set_|apply keep_drewN|apply keep_drew|apply keep_alloc)|exact HK.out)) hk (.inl rfl));have n2_:=Aside0.mk (hb);have n3_:=Aside0.mk (hi);clear HO169;clear HK;clear HB;clear HI0;have HO169:=n0_;have HK:=n1_;have HB:=n2_;have HI0:=n3_;clear n0_ n1_ n2_ n3_;(try clear hb);(try clear hb2);(try clear hk);(try clear hi)))
 go_loopg [9, 11] k (fun kq v9 v11 w' => ∃ (x9_1 : List Int) (x11_1 : Int) (x1001_1 : Int), v11 = .int .i64 x11_1 ∧ Aside0 (spec_l20State.l0 kq a1 a2 a3 x9_1 t170 x11_1 s0_0 x1001_1 = some (r1, r2)) ∧ Aside0 (kq ≤ k) ∧ Aside0 (Kd.R (Kd.int .i64) 3 w' w.heap.size (fun _ => True) v9 x9_1) ∧ Aside0 (IsS60 w0 w' g s0_0 x1001_1) ∧ Aside0 (KeepBut w w' g none) ∧ Aside0 (Below w0.heap.size w0 w'))
 case atStart => exact ⟨(y167), (0), (t171), (by first|rfl|(simp; done)|(simp [*]; done)), H', ⟨Nat.le_refl _⟩, ⟨by (with_reducible repeat first|apply rA|apply rN|apply rD); exact HO169.out⟩, ⟨by repeat (first|(with_reducible first|exact HI0.out|apply IsS60.alloc|apply IsS60.drewN|apply IsS60.drew|apply IsS60.set_1)|exact HI0.out)⟩, ⟨by repeat (first|(with_reducible first|exact HK.out|apply KeepBut.set_|apply keep_drewN|apply keep_drew|apply keep_alloc)|exact HK.out)⟩, ⟨by repeat (first|(with_reducible first|exact HB.out|apply bA|apply bN|apply bD|refine below_set ?_ (IsS60.ge HI0.out))|exact HB.out)⟩⟩
 case round =>
  clear H'
  try clear p2
  try clear c5
  try clear c6
  obtain ⟨x9_1, x11_1, x1001_1, rfl, HA, HK1, HO_9, HI0, HK, HB⟩ := hrel
  cases gk with
  | zero => exact absurd HA.out (by simp [spec_l20State.l0])
  | succ k1 =>
   have H := HA.out
   clear HA
   simp only [spec_l20State.l0] at H
   by_cases c9 : x11_1 < a1
   ·rw [if_pos c9] at H
    have c9b0 : decide (x11_1 < a1) = true := decide_eq_true c9
    clear c9
    by_cases c10 : t170 > 0
    ·rw [if_pos c10] at H
     have c10b0 : decide (0 < t170) = true := decide_eq_true c10
     clear c10
     replace H := Option.bind_eq_some_iff.mp H
     obtain ⟨⟨t172, t173⟩, A110, H⟩ := H
     replace H : (if t172 < t170 then (if x9_1.length < 17592186044416 then (spec_l20State.l0 k1 a1 a2 a3 (x9_1 ++ [0]) t170 (wrap64 (x11_1 + 1)) s0_0 t173) else (none)) else ((spec_l20Rd_pick.f k1 s0_0 t173 a2).bind fun bt177 => (if x9_1.length < 17592186044416 then (spec_l20State.l0 k1 a1 a2 a3 (x9_1 ++ [bt177.1]) t170 (wrap64 (x11_1 + 1)) s0_0 bt177.2) else (none)))) = some (r1, r2) := H
     have A11 := Aside0.mk A110
     clear A110
     by_cases c12 : t172 < t170
     ·rw [if_pos c12] at H
      have c12b0 : decide (t172 < t170) = true := decide_eq_true c12
      clear c12
      by_cases c13 : x9_1.length < 17592186044416
      ·rw [if_pos c13] at H
       have LMc13 := Aside0.mk c13
       clear c13
       obtain ⟨y174, hy174⟩ : ∃ y_ : List Int, y_ = (x9_1 ++ [0]) := ⟨_, rfl⟩
       replace H : (spec_l20State.l0 k1 a1 a2 a3 y174 t170 (wrap64 (x11_1 + 1)) s0_0 t173) = some (r1, r2) := by first|(rw [hy174]; with_reducible exact H)|(have H2_ := (Option.bind_some _ _).symm.trans H; rw [hy174]; with_reducible exact H2_)|(have H2_ := (Option.bind_some _ _).symm.trans H; with_reducible exact H2_)|with_reducible exact H|(rw [hy174]; exact H)|exact H
       have Ny174 := Aside0.mk hy174
       clear hy174
       have H' := Aside0.mk H
       clear H
       go_wp2_with (first|(go_at_call 52;(with_reducible refine (spec_l20Rd_pick.calls k1 g s0_0 x1001_1 3 t172 t173 w0 _ ?side1 ?side2 A11.out).mono ?_);(case side1 => repeat (first|(with_reducible first|exact HI0.out|apply IsS60.alloc|apply IsS60.drewN|apply IsS60.drew|apply IsS60.set_1)|exact HI0.out));(case side2 => repeat (first|(with_reducible first|exact HB.out|apply bA|apply bN|apply bD|refine below_set ?_ (IsS60.ge HI0.out))|exact HB.out));rintro e w14 ⟨rfl,hi,hb,hk⟩;have n0_:=Aside0.mk (Kd.R_mono (Kd.R_keep (IsS60.apart (show IsS60 w0 _ g s0_0 x1001_1 from by repeat (first|(with_reducible first|exact HI0.out|apply IsS60.alloc|apply IsS60.drewN|apply IsS60.drew|apply IsS60.set_1)|exact HI0.out)) (by (with_reducible repeat first|apply rA|apply rN|apply rD);exact HO_9.out) (by decide)) hk (fun _ h => h.2)) (fun _ h => h.1));have n1_:=Aside0.mk (KeepBut.trans (by repeat (first|(with_reducible first|exact HK.out|apply KeepBut.set_|apply keep_drewN|apply keep_drew|apply keep_alloc)|exact HK.out)) hk (.inl rfl));have n2_:=Aside0.mk (hb);have n3_:=Aside0.mk (hi);clear HO_9;clear HK;clear HB;clear HI0;have HO_9:=n0_;have HK:=n1_;have HB:=n2_;have HI0:=n3_;clear n0_ n1_ n2_ n3_;(try clear hb);(try clear hb2);(try clear hk);(try clear hi))|((with_reducible refine gate_builtin (b:=.append) (xs:=#[.tmp 28,.tmp 29]) rfl ?_);at_builtin;refine Kd.R_append (Kd.int .i64) w.heap.size rfl (.tmp 28) (.tmp 29) 23 3 (.int .i64 0) 8 rfl Try.underlying23 info3 rfl (by decide) (by omega) u9 x9_1 0 [.int .i64 0] (fun _ => True) (fun _ => False) rfl rfl ?aP (fun _ hk => hk.elim) ?aF ?aO (Below.refl _ _) ?aS ?aL ?_;(case aP => exact rfl);(case aF => exact (fun _ _ => trivial));(case aO => exact (by (with_reducible repeat first|apply rA|apply rN|apply rD);exact HO_9.out));(case aS => exact (keep_size (w:=w) (g:=g) (row:=none) (by repeat (first|(with_reducible first|exact HK.out|apply KeepBut.set_|apply keep_drewN|apply keep_drew|apply keep_alloc)|exact HK.out))));(case aL => have:=LMc13.out;omega);intro v175 w15 ho hb hg hat;rw [← Ny174.out] at ho;have n0_:=Aside0.mk (IsS60.grown (by repeat (first|(with_reducible first|exact HI0.out|apply IsS60.alloc|apply IsS60.drewN|apply IsS60.drew|apply IsS60.set_1)|exact HI0.out)) hg (IsS60.own_ne HI0.out HO_9.out (by decide)));have n1_:=Aside0.mk (below_weaken (by repeat (first|(with_reducible first|exact HB.out|apply bA|apply bN|apply bD|refine below_set ?_ (IsS60.ge HI0.out))|exact HB.out)) HL.out hb);have n2_:=Aside0.mk (KeepBut.trans (by repeat (first|(with_reducible first|exact HK.out|apply KeepBut.set_|apply keep_drewN|apply keep_drew|apply keep_alloc)|exact HK.out)) (KeepBut.of_grown hg g) (Kd.R_base2 HO_9.out));have n3_:=Aside0.mk (ho);clear HI0;clear HB;clear HK;clear HO_9;have HI0:=n0_;have HB:=n1_;have HK:=n2_;have HO176:=n3_;clear n0_ n1_ n2_ n3_;clear ho hb hg hat))
       go_roundg k1
       case measure => have := HK1.out; omega
       case rel => exact ⟨(y174), (wrap64 (x11_1 + 1)), (t173), (by first|rfl|(simp; done)|(simp [*]; done)), H', ⟨by have := HK1.out; omega⟩, ⟨by (with_reducible repeat first|apply rA|apply rN|apply rD); exact HO176.out⟩, ⟨by repeat (first|(with_reducible first|exact HI0.out|apply IsS60.alloc|apply IsS60.drewN|apply IsS60.drew|apply IsS60.set_1)|exact HI0.out)⟩, ⟨by repeat (first|(with_reducible first|exact HK.out|apply KeepBut.set_|apply keep_drewN|apply keep_drew|apply keep_alloc)|exact HK.out)⟩, ⟨by repeat (first|(with_reducible first|exact HB.out|apply bA|apply bN|apply bD|refine below_set ?_ (IsS60.ge HI0.out))|exact HB.out)⟩⟩
      ·rw [if_neg c13] at H
       exact absurd H (by simp)
     ·rw [if_neg c12] at H
      have c12b0 : decide (t172 < t170) = false := decide_eq_false c12
      clear c12
      replace H := Option.bind_eq_some_iff.mp H
      obtain ⟨⟨t177, t178⟩, A160, H⟩ := H
      replace H : (if x9_1.length < 17592186044416 then (spec_l20State.l0 k1 a1 a2 a3 (x9_1 ++ [t177]) t170 (wrap64 (x11_1 + 1)) s0_0 t178) else (none)) = some (r1, r2) := H
      have A16 := Aside0.mk A160
      clear A160
      by_cases c17 : x9_1.length < 17592186044416
      ·rw [if_pos c17] at H
       have LMc17 := Aside0.mk c17
       clear c17
       obtain ⟨y179, hy179⟩ : ∃ y_ : List Int, y_ = (x9_1 ++ [t177]) := ⟨_, rfl⟩
       replace H : (spec_l20State.l0 k1 a1 a2 a3 y179 t170 (wrap64 (x11_1 + 1)) s0_0 t178) = some (r1, r2) := by first|(rw [hy179]; with_reducible exact H)|(have H2_ := (Option.bind_some _ _).symm.trans H; rw [hy179]; with_reducible exact H2_)|(have H2_ := (Option.bind_some _ _).symm.trans H; with_reducible exact H2_)|with_reducible exact H|(rw [hy179]; exact H)|exact H
       have Ny179 := Aside0.mk hy179
       clear hy179
       have H' := Aside0.mk H
       clear H
       go_wp2_with (first|(go_at_call 52;(with_reducible refine (spec_l20Rd_pick.calls k1 g s0_0 x1001_1 3 t172 t173 w0 _ ?side1 ?side2 A11.out).mono ?_);(case side1 => repeat (first|(with_reducible first|exact HI0.out|apply IsS60.alloc|apply IsS60.drewN|apply IsS60.drew|apply IsS60.set_1)|exact HI0.out));(case side2 => repeat (first|(with_reducible first|exact HB.out|apply bA|apply bN|apply bD|refine below_set ?_ (IsS60.ge HI0.out))|exact HB.out));rintro e w18 ⟨rfl,hi,hb,hk⟩;have n0_:=Aside0.mk (Kd.R_mono (Kd.R_keep (IsS60.apart (show IsS60 w0 _ g s0_0 x1001_1 from by repeat (first|(with_reducible first|exact HI0.out|apply IsS60.alloc|apply IsS60.drewN|apply IsS60.drew|apply IsS60.set_1)|exact HI0.out)) (by (with_reducible repeat first|apply rA|apply rN|apply rD);exact HO_9.out) (by decide)) hk (fun _ h => h.2)) (fun _ h => h.1));have n1_:=Aside0.mk (KeepBut.trans (by repeat (first|(with_reducible first|exact HK.out|apply KeepBut.set_|apply keep_drewN|apply keep_drew|apply keep_alloc)|exact HK.out)) hk (.inl rfl));have n2_:=Aside0.mk (hb);have n3_:=Aside0.mk (hi);clear HO_9;clear HK;clear HB;clear HI0;have HO_9:=n0_;have HK:=n1_;have HB:=n2_;have HI0:=n3_;clear n0_ n1_ n2_ n3_;(try clear hb);(try clear hb2);(try clear hk);(try clear hi))|((with_reducible refine gate_callee (f:=52) rfl ?_);refine goesL_ (some 34) rfl rfl Try.func52 (by kernel_rfl) rfl #[.pointer (some ⟨g,0,none⟩),.int .i64 a2] rfl (by (try simp only [List.map_toArray,List.map_cons,List.map_nil]);first|done|rfl|(simp only [List.length_drop,List.length_take];rfl)) ?_;(with_reducible refine (spec_l20Rd_pick.calls k1 g s0_0 t173 a2 t177 t178 w0 _ ?side1 ?side2 A16.out).mono ?_);(case side1 => repeat (first|(with_reducible first|exact HI0.out|apply IsS60.alloc|apply IsS60.drewN|apply IsS60.drew|apply IsS60.set_1)|exact HI0.out));(case side2 => repeat (first|(with_reducible first|exact HB.out|apply bA|apply bN|apply bD|refine below_set ?_ (IsS60.ge HI0.out))|exact HB.out));rintro e w19 ⟨rfl,hi,hb,hk⟩;refine ⟨_,rfl,?_⟩;have n0_:=Aside0.mk (Kd.R_mono (Kd.R_keep (IsS60.apart (show IsS60 w0 _ g s0_0 t173 from by repeat (first|(with_reducible first|exact HI0.out|apply IsS60.alloc|apply IsS60.drewN|apply IsS60.drew|apply IsS60.set_1)|exact HI0.out)) (by (with_reducible repeat first|apply rA|apply rN|apply rD);exact HO_9.out) (by decide)) hk (fun _ h => h.2)) (fun _ h => h.1));have n1_:=Aside0.mk (KeepBut.trans (by repeat (first|(with_reducible first|exact HK.out|apply KeepBut.set_|apply keep_drewN|apply keep_drew|apply keep_alloc)|exact HK.out)) hk (.inl rfl));have n2_:=Aside0.mk (hb);have n3_:=Aside0.mk (hi);clear HO_9;clear HK;clear HB;clear HI0;have HO_9:=n0_;have HK:=n1_;have HB:=n2_;have HI0:=n3_;clear n0_ n1_ n2_ n3_;(try clear hb);(try clear hb2);(try clear hk);(try clear hi))|((with_reducible refine gate_builtin (b:=.append) (xs:=#[.tmp 31,.tmp 35]) rfl ?_);at_builtin;refine Kd.R_append (Kd.int .i64) w.heap.size rfl (.tmp 31) (.tmp 35) 23 3 (.int .i64 0) 8 rfl Try.underlying23 info3 rfl (by decide) (by omega) u9 x9_1 t177 [.int .i64 t177] (fun _ => True) (fun _ => False) rfl rfl ?aP (fun _ hk => hk.elim) ?aF ?aO (Below.refl _ _) ?aS ?aL ?_;(case aP => exact rfl);(case aF => exact (fun _ _ => trivial));(case aO => exact (by (with_reducible repeat first|apply rA|apply rN|apply rD);exact HO_9.out));(case aS => exact (keep_size (w:=w) (g:=g) (row:=none) (by repeat (first|(with_reducible first|exact HK.out|apply KeepBut.set_|apply keep_drewN|apply keep_drew|apply keep_alloc)|exact HK.out))));(case aL => have:=LMc17.out;omega);intro v180 w20 ho hb hg hat;rw [← Ny179.out] at ho;have n0_:=Aside0.mk (IsS60.grown (by repeat (first|(with_reducible first|exact HI0.out|apply IsS60.alloc|apply IsS60.drewN|apply IsS60.drew|apply IsS60.set_1)|exact HI0.out)) hg (IsS60.own_ne HI0.out HO_9.out (by decide)));have n1_:=Aside0.mk (below_weaken (by repeat (first|(with_reducible first|exact HB.out|apply bA|apply bN|apply bD|refine below_set ?_ (IsS60.ge HI0.out))|exact HB.out)) HL.out hb);have n2_:=Aside0.mk (KeepBut.trans (by repeat (first|(with_reducible first|exact HK.out|apply KeepBut.set_|apply keep_drewN|apply keep_drew|apply keep_alloc)|exact HK.out)) (KeepBut.of_grown hg g) (Kd.R_base2 HO_9.out));have n3_:=Aside0.mk (ho);clear HI0;clear HB;clear HK;clear HO_9;have HI0:=n0_;have HB:=n1_;have HK:=n2_;have HO181:=n3_;clear n0_ n1_ n2_ n3_;clear ho hb hg hat))
       go_roundg k1
       case measure => have := HK1.out; omega
       case rel => exact ⟨(y179), (wrap64 (x11_1 + 1)), (t178), (by first|rfl|(simp; done)|(simp [*]; done)), H', ⟨by have := HK1.out; omega⟩, ⟨by (with_reducible repeat first|apply rA|apply rN|apply rD); exact HO181.out⟩, ⟨by repeat (first|(with_reducible first|exact HI0.out|apply IsS60.alloc|apply IsS60.drewN|apply IsS60.drew|apply IsS60.set_1)|exact HI0.out)⟩, ⟨by repeat (first|(with_reducible first|exact HK.out|apply KeepBut.set_|apply keep_drewN|apply keep_drew|apply keep_alloc)|exact HK.out)⟩, ⟨by repeat (first|(with_reducible first|exact HB.out|apply bA|apply bN|apply bD|refine below_set ?_ (IsS60.ge HI0.out))|exact HB.out)⟩⟩
      ·rw [if_neg c17] at H
       exact absurd H (by simp)
    ·rw [if_neg c10] at H
     have c10b0 : decide (0 < t170) = false := decide_eq_false c10
     clear c10
     replace H := Option.bind_eq_some_iff.mp H
     obtain ⟨⟨t182, t183⟩, A210, H⟩ := H
     replace H : (if x9_1.length < 17592186044416 then (spec_l20State.l0 k1 a1 a2 a3 (x9_1 ++ [t182]) t170 (wrap64 (x11_1 + 1)) s0_0 t183) else (none)) = some (r1, r2) := H
     have A21 := Aside0.mk A210
     clear A210
     by_cases c22 : x9_1.length < 17592186044416
     ·rw [if_pos c22] at H
      have LMc22 := Aside0.mk c22
      clear c22
      obtain ⟨y184, hy184⟩ : ∃ y_ : List Int, y_ = (x9_1 ++ [t182]) := ⟨_, rfl⟩
      replace H : (spec_l20State.l0 k1 a1 a2 a3 y184 t170 (wrap64 (x11_1 + 1)) s0_0 t183) = some (r1, r2) := by first|(rw [hy184]; with_reducible exact H)|(have H2_ := (Option.bind_some _ _).symm.trans H; rw [hy184]; with_reducible exact H2_)|(have H2_ := (Option.bind_some _ _).symm.trans H; with_reducible exact H2_)|with_reducible exact H|(rw [hy184]; exact H)|exact H
      have Ny184 := Aside0.mk hy184
      clear hy184
      have H' := Aside0.mk H
      clear H
      go_wp2_with (first|((with_reducible refine gate_callee (f:=52) rfl ?_);refine goesL_ (some 34) rfl rfl Try.func52 (by kernel_rfl) rfl #[.pointer (some ⟨g,0,none⟩),.int .i64 a2] rfl (by (try simp only [List.map_toArray,List.map_cons,List.map_nil]);first|done|rfl|(simp only [List.length_drop,List.length_take];rfl)) ?_;(with_reducible refine (spec_l20Rd_pick.calls k1 g s0_0 x1001_1 a2 t182 t183 w0 _ ?side1 ?side2 A21.out).mono ?_);(case side1 => repeat (first|(with_reducible first|exact HI0.out|apply IsS60.alloc|apply IsS60.drewN|apply IsS60.drew|apply IsS60.set_1)|exact HI0.out));(case side2 => repeat (first|(with_reducible first|exact HB.out|apply bA|apply bN|apply bD|refine below_set ?_ (IsS60.ge HI0.out))|exact HB.out));rintro e w23 ⟨rfl,hi,hb,hk⟩;refine ⟨_,rfl,?_⟩;have n0_:=Aside0.mk (Kd.R_mono (Kd.R_keep (IsS60.apart (show IsS60 w0 _ g s0_0 x1001_1 from by repeat (first|(with_reducible first|exact HI0.out|apply IsS60.alloc|apply IsS60.drewN|apply IsS60.drew|apply IsS60.set_1)|exact HI0.out)) (by (with_reducible repeat first|apply rA|apply rN|apply rD);exact HO_9.out) (by decide)) hk (fun _ h => h.2)) (fun _ h => h.1));have n1_:=Aside0.mk (KeepBut.trans (by repeat (first|(with_reducible first|exact HK.out|apply KeepBut.set_|apply keep_drewN|apply keep_drew|apply keep_alloc)|exact HK.out)) hk (.inl rfl));have n2_:=Aside0.mk (hb);have n3_:=Aside0.mk (hi);clear HO_9;clear HK;clear HB;clear HI0;have HO_9:=n0_;have HK:=n1_;have HB:=n2_;have HI0:=n3_;clear n0_ n1_ n2_ n3_;(try clear hb);(try clear hb2);(try clear hk);(try clear hi))|((with_reducible refine gate_builtin (b:=.append) (xs:=#[.tmp 31,.tmp 35]) rfl ?_);at_builtin;refine Kd.R_append (Kd.int .i64) w.heap.size rfl (.tmp 31) (.tmp 35) 23 3 (.int .i64 0) 8 rfl Try.underlying23 info3 rfl (by decide) (by omega) u9 x9_1 t182 [.int .i64 t182] (fun _ => True) (fun _ => False) rfl rfl ?aP (fun _ hk => hk.elim) ?aF ?aO (Below.refl _ _) ?aS ?aL ?_;(case aP => exact rfl);(case aF => exact (fun _ _ => trivial));(case aO => exact (by (with_reducible repeat first|apply rA|apply rN|apply rD);exact HO_9.out));(case aS => exact (keep_size (w:=w) (g:=g) (row:=none) (by repeat (first|(with_reducible first|exact HK.out|apply KeepBut.set_|apply keep_drewN|apply keep_drew|apply keep_alloc)|exact HK.out))));(case aL => have:=LMc22.out;omega);intro v185 w24 ho hb hg hat;rw [← Ny184.out] at ho;have n0_:=Aside0.mk (IsS60.grown (by repeat (first|(with_reducible first|exact HI0.out|apply IsS60.alloc|apply IsS60.drewN|apply IsS60.drew|apply IsS60.set_1)|exact HI0.out)) hg (IsS60.own_ne HI0.out HO_9.out (by decide)));have n1_:=Aside0.mk (below_weaken (by repeat (first|(with_reducible first|exact HB.out|apply bA|apply bN|apply bD|refine below_set ?_ (IsS60.ge HI0.out))|exact HB.out)) HL.out hb);have n2_:=Aside0.mk (KeepBut.trans (by repeat (first|(with_reducible first|exact HK.out|apply KeepBut.set_|apply keep_drewN|apply keep_drew|apply keep_alloc)|exact HK.out)) (KeepBut.of_grown hg g) (Kd.R_base2 HO_9.out));have n3_:=Aside0.mk (ho);clear HI0;clear HB;clear HK;clear HO_9;have HI0:=n0_;have HB:=n1_;have HK:=n2_;have HO186:=n3_;clear n0_ n1_ n2_ n3_;clear ho hb hg hat))
      go_roundg k1
      case measure => have := HK1.out; omega
      case rel => exact ⟨(y184), (wrap64 (x11_1 + 1)), (t183), (by first|rfl|(simp; done)|(simp [*]; done)), H', ⟨by have := HK1.out; omega⟩, ⟨by (with_reducible repeat first|apply rA|apply rN|apply rD); exact HO186.out⟩, ⟨by repeat (first|(with_reducible first|exact HI0.out|apply IsS60.alloc|apply IsS60.drewN|apply IsS60.drew|apply IsS60.set_1)|exact HI0.out)⟩, ⟨by repeat (first|(with_reducible first|exact HK.out|apply KeepBut.set_|apply keep_drewN|apply keep_drew|apply keep_alloc)|exact HK.out)⟩, ⟨by repeat (first|(with_reducible first|exact HB.out|apply bA|apply bN|apply bD|refine below_set ?_ (IsS60.ge HI0.out))|exact HB.out)⟩⟩
     ·rw [if_neg c22] at H
      exact absurd H (by simp)
   ·rw [if_neg c9] at H
    have c9b0 : decide (x11_1 < a1) = false := decide_eq_false c9
    clear c9
    replace H := Option.bind_eq_some_iff.mp H
    obtain ⟨⟨t187, t188⟩, A250, H⟩ := H
    replace H : (if t187 = true then ((spec_l20Rd_pick.f k1 s0_0 t188 2).bind fun bt189 => (if bt189.1 = 0 then (some ((([] : List Int)), bt189.2)) else (if 0 ≤ (wrap64 ((x9_1.length : Int) - 1)) then (if (wrap64 ((x9_1.length : Int) - 1)) < (x9_1.length : Int) then (some ((x9_1.set ((wrap64 ((x9_1.length : Int) - 1)) : Int).toNat a2), bt189.2)) else (none)) else (none)))) else (some (x9_1, t188))) = some (r1, r2) := H
    have A25 := Aside0.mk A250
    clear A250
    by_cases c26 : t187 = true
    ·subst c26
     have H1 : ((spec_l20Rd_pick.f k1 s0_0 t188 2).bind fun bt189 => (if bt189.1 = 0 then (some ((([] : List Int)), bt189.2)) else (if 0 ≤ (wrap64 ((x9_1.length : Int) - 1)) then (if (wrap64 ((x9_1.length : Int) - 1)) < (x9_1.length : Int) then (some ((x9_1.set ((wrap64 ((x9_1.length : Int) - 1)) : Int).toNat a2), bt189.2)) else (none)) else (none)))) = some (r1, r2) := by rw [if_pos rfl] at H; exact H
     clear H
     have H := H1
     clear H1
     replace H := Option.bind_eq_some_iff.mp H
     obtain ⟨⟨t189, t190⟩, A270, H⟩ := H
     replace H : (if t189 = 0 then (some ((([] : List Int)), t190)) else (if 0 ≤ (wrap64 ((x9_1.length : Int) - 1)) then (if (wrap64 ((x9_1.length : Int) - 1)) < (x9_1.length : Int) then (some ((x9_1.set ((wrap64 ((x9_1.length : Int) - 1)) : Int).toNat a2), t190)) else (none)) else (none))) = some (r1, r2) := H
     have A27 := Aside0.mk A270
     clear A270
     by_cases c28 : t189 = 0
     ·rw [if_pos c28] at H
      have c28b0 : (t189 == 0) = true := beq_iff_eq.mpr c28
      have c28b1 : (t189 != 0) = false := bne_eq_false_iff_eq.mpr c28
      clear c28
      obtain ⟨y191, hy191⟩ : ∃ y_ : List Int, y_ = (([] : List Int)) := ⟨_, rfl⟩
      replace H : (some (y191, t190)) = some (r1, r2) := by first|(rw [hy191]; with_reducible exact H)|(have H2_ := (Option.bind_some _ _).symm.trans H; rw [hy191]; with_reducible exact H2_)|(have H2_ := (Option.bind_some _ _).symm.trans H; with_reducible exact H2_)|with_reducible exact H|(rw [hy191]; exact H)|exact H
      have Ny191 := Aside0.mk hy191
      clear hy191
      simp only [Option.some.injEq, Prod.mk.injEq] at H
      obtain ⟨rfl, rfl⟩ := H
      go_wp2_with (first|((with_reducible refine gate_callee (f:=64) rfl ?_);refine goesL_ (some 39) rfl rfl Try.func64 (by kernel_rfl) rfl #[.pointer (some ⟨g,0,none⟩),.int .i64 a3] rfl (by (try simp only [List.map_toArray,List.map_cons,List.map_nil]);first|done|rfl|(simp only [List.length_drop,List.length_take];rfl)) ?_;(with_reducible refine (spec_l20Rd_odd.calls k1 g s0_0 x1001_1 a3 true t188 w0 _ ?side1 ?side2 A25.out).mono ?_);(case side1 => repeat (first|(with_reducible first|exact HI0.out|apply IsS60.alloc|apply IsS60.drewN|apply IsS60.drew|apply IsS60.set_1)|exact HI0.out));(case side2 => repeat (first|(with_reducible first|exact HB.out|apply bA|apply bN|apply bD|refine below_set ?_ (IsS60.ge HI0.out))|exact HB.out));rintro e w29 ⟨rfl,hi,hb,hk⟩;refine ⟨_,rfl,?_⟩;have n0_:=Aside0.mk (Kd.R_mono (Kd.R_keep (IsS60.apart (show IsS60 w0 _ g s0_0 x1001_1 from by repeat (first|(with_reducible first|exact HI0.out|apply IsS60.alloc|apply IsS60.drewN|apply IsS60.drew|apply IsS60.set_1)|exact HI0.out)) (by (with_reducible repeat first|apply rA|apply rN|apply rD);exact HO_9.out) (by decide)) hk (fun _ h => h.2)) (fun _ h => h.1));have n1_:=Aside0.mk (KeepBut.trans (by repeat (first|(with_reducible first|exact HK.out|apply KeepBut.set_|apply keep_drewN|apply keep_drew|apply keep_alloc)|exact HK.out)) hk (.inl rfl));have n2_:=Aside0.mk (hb);have n3_:=Aside0.mk (hi);clear HO_9;clear HK;clear HB;clear HI0;have HO_9:=n0_;have HK:=n1_;have HB:=n2_;have HI0:=n3_;clear n0_ n1_ n2_ n3_;(try clear hb);(try clear hb2);(try clear hk);(try clear hi))|((with_reducible refine gate_callee (f:=52) rfl ?_);refine goesL_ (some 41) rfl rfl Try.func52 (by kernel_rfl) rfl #[.pointer (some ⟨g,0,none⟩),.int .i64 2] rfl (by (try simp only [List.map_toArray,List.map_cons,List.map_nil]);first|done|rfl|(simp only [List.length_drop,List.length_take];rfl)) ?_;(with_reducible refine (spec_l20Rd_pick.calls k1 g s0_0 t188 2 t189 t190 w0 _ ?side1 ?side2 A27.out).mono ?_);(case side1 => repeat (first|(with_reducible first|exact HI0.out|apply IsS60.alloc|apply IsS60.drewN|apply IsS60.drew|apply IsS60.set_1)|exact HI0.out));(case side2 => repeat (first|(with_reducible first|exact HB.out|apply bA|apply bN|apply bD|refine below_set ?_ (IsS60.ge HI0.out))|exact HB.out));rintro e w30 ⟨rfl,hi,hb,hk⟩;refine ⟨_,rfl,?_⟩;have n0_:=Aside0.mk (Kd.R_mono (Kd.R_keep (IsS60.apart (show IsS60 w0 _ g s0_0 t188 from by repeat (first|(with_reducible first|exact HI0.out|apply IsS60.alloc|apply IsS60.drewN|apply IsS60.drew|apply IsS60.set_1)|exact HI0.out)) (by (with_reducible repeat first|apply rA|apply rN|apply rD);exact HO_9.out) (by decide)) hk (fun _ h => h.2)) (fun _ h => h.1));have n1_:=Aside0.mk (KeepBut.trans (by repeat (first|(with_reducible first|exact HK.out|apply KeepBut.set_|apply keep_drewN|apply keep_drew|apply keep_alloc)|exact HK.out)) hk (.inl rfl));have n2_:=Aside0.mk (hb);have n3_:=Aside0.mk (hi);clear HO_9;clear HK;clear HB;clear HI0;have HO_9:=n0_;have HK:=n1_;have HB:=n2_;have HI0:=n3_;clear n0_ n1_ n2_ n3_;(try clear hb);(try clear hb2);(try clear hk);(try clear hi))|((with_reducible refine gate_dst (N:=50) rfl ?_);refine Kd.R_lit (Kd.int .i64) _ 3 ?hg (N:=50) ?hd (xs:=([] : List Int)) (inner:=[]) (ok:=fun _ => True) (okp:=fun _ => True) ?hr ?hp (fun _ hk => hk) trivial (Below.refl _ _) (Nat.le_refl _) (by simp) ?_;(case hd => rfl);(case hg => rfl);(case hr => first|(go_simp;done)|(go_simp;rfl));(case hp => exact (Reps.none _ _));intro v192 w31 ho32 hb hg_ hnew_;clear hg_ hnew_;(first|rw [← Ny191.out] at ho32|(simp only [Int.reduceToNat] at ho32;rw [← Ny191.out] at ho32));have n0_:=Aside0.mk (kE (by (with_reducible repeat first|apply rA|apply rN|apply rD);exact HO_9.out) (Kd.R_base ho32) hb);have n1_:=Aside0.mk (Kd.R_lower (kN ho32 (Kd.R_lt (by (with_reducible repeat first|apply rA|apply rN|apply rD);exact HO_9.out))) (keep_size (w:=w) (g:=g) (row:=none) (by repeat (first|(with_reducible first|exact HK.out|apply KeepBut.set_|apply keep_drewN|apply keep_drew|apply keep_alloc)|exact HK.out))));have n2_:=Aside0.mk (IsS60.below (by repeat (first|(with_reducible first|exact HI0.out|apply IsS60.alloc|apply IsS60.drewN|apply IsS60.drew|apply IsS60.set_1)|exact HI0.out)) hb);have n3_:=Aside0.mk (KeepBut.trans (by repeat (first|(with_reducible first|exact HK.out|apply KeepBut.set_|apply keep_drewN|apply keep_drew|apply keep_alloc)|exact HK.out)) (KeepBut.of_below hb g none) (.inl rfl));have n4_:=Aside0.mk (bT (by repeat (first|(with_reducible first|exact HB.out|apply bA|apply bN|apply bD|refine below_set ?_ (IsS60.ge HI0.out))|exact HB.out)) hb);clear HO_9;clear HI0;clear HK;clear HB;have HO_9:=n0_;have HO193:=n1_;have HI0:=n2_;have HK:=n3_;have HB:=n4_;clear n0_ n1_ n2_ n3_ n4_;clear hb ho32))
      go_ret
      exact ⟨_, by first|rfl|(simp [errW_none, errW_some] <;> rfl)|(simp [*, errW_none, errW_some] <;> rfl), by (with_reducible repeat first|apply rA|apply rN|apply rD); exact Kd.R_mono HO193.out (fun _ hk => trivial), by repeat (first|(with_reducible first|exact HI0.out|apply IsS60.alloc|apply IsS60.drewN|apply IsS60.drew|apply IsS60.set_1)|exact HI0.out), by repeat (first|(with_reducible first|exact HB.out|apply bA|apply bN|apply bD|refine below_set ?_ (IsS60.ge HI0.out))|exact HB.out), by repeat (first|(with_reducible first|exact HK.out|apply KeepBut.set_|apply keep_drewN|apply keep_drew|apply keep_alloc)|exact HK.out)⟩
     ·rw [if_neg c28] at H
      have c28b0 : (t189 == 0) = false := beq_eq_false_iff_ne.mpr c28
      have c28b1 : (t189 != 0) = true := bne_iff_ne.mpr c28
      obtain ⟨ji33, hji33⟩ : ∃ j_ : Int, (wrap64 ((x9_1.length : Int) - 1)) = j_ := ⟨_, rfl⟩
      replace H : (if 0 ≤ (ji33) then (if (ji33) < (x9_1.length : Int) then (some ((x9_1.set ((ji33) : Int).toNat a2), t190)) else (none)) else (none)) = some (r1, r2) := by first|(rw [hji33] at H; exact H)|(simp only [hji33] at H ⊢; exact H)
      (try rw [hji33] at A25)
      (try rw [hji33] at A27)
      have hji33w : (IntKind.i64.wrap ((x9_1.length : Int) - 1)) = ji33 := (i64_w _).trans hji33
      by_cases c34 : 0 ≤ (ji33)
      ·rw [if_pos c34] at H
       have c34b0 : decide (0 ≤ (ji33)) = true := decide_eq_true c34
       clear c34
       by_cases c35 : (ji33) < (x9_1.length : Int)
       ·rw [if_pos c35] at H
        have c35b0 : decide ((ji33) < (x9_1.length : Int)) = true := decide_eq_true c35
        clear c35
        obtain ⟨y194, hy194⟩ : ∃ y_ : List Int, y_ = (x9_1.set ((ji33) : Int).toNat a2) := ⟨_, rfl⟩
        replace H : (some (y194, t190)) = some (r1, r2) := by first|(rw [hy194]; with_reducible exact H)|(have H2_ := (Option.bind_some _ _).symm.trans H; rw [hy194]; with_reducible exact H2_)|(have H2_ := (Option.bind_some _ _).symm.trans H; with_reducible exact H2_)|with_reducible exact H|(rw [hy194]; exact H)|exact H
        have Ny194 := Aside0.mk hy194
        clear hy194
        simp only [Option.some.injEq, Prod.mk.injEq] at H
        obtain ⟨rfl, rfl⟩ := H
        go_wp2_with (first|((with_reducible refine gate_callee (f:=64) rfl ?_);refine goesL_ (some 39) rfl rfl Try.func64 (by kernel_rfl) rfl #[.pointer (some ⟨g,0,none⟩),.int .i64 a3] rfl (by (try simp only [List.map_toArray,List.map_cons,List.map_nil]);first|done|rfl|(simp only [List.length_drop,List.length_take];rfl)) ?_;(with_reducible refine (spec_l20Rd_odd.calls k1 g s0_0 x1001_1 a3 true t188 w0 _ ?side1 ?side2 A25.out).mono ?_);(case side1 => repeat (first|(with_reducible first|exact HI0.out|apply IsS60.alloc|apply IsS60.drewN|apply IsS60.drew|apply IsS60.set_1)|exact HI0.out));(case side2 => repeat (first|(with_reducible first|exact HB.out|apply bA|apply bN|apply bD|refine below_set ?_ (IsS60.ge HI0.out))|exact HB.out));rintro e w37 ⟨rfl,hi,hb,hk⟩;refine ⟨_,rfl,?_⟩;have n0_:=Aside0.mk (Kd.R_mono (Kd.R_keep (IsS60.apart (show IsS60 w0 _ g s0_0 x1001_1 from by repeat (first|(with_reducible first|exact HI0.out|apply IsS60.alloc|apply IsS60.drewN|apply IsS60.drew|apply IsS60.set_1)|exact HI0.out)) (by (with_reducible repeat first|apply rA|apply rN|apply rD);exact HO_9.out) (by decide)) hk (fun _ h => h.2)) (fun _ h => h.1));have n1_:=Aside0.mk (KeepBut.trans (by repeat (first|(with_reducible first|exact HK.out|apply KeepBut.set_|apply keep_drewN|apply keep_drew|apply keep_alloc)|exact HK.out)) hk (.inl rfl));have n2_:=Aside0.mk (hb);have n3_:=Aside0.mk (hi);clear HO_9;clear HK;clear HB;clear HI0;have HO_9:=n0_;have HK:=n1_;have HB:=n2_;have HI0:=n3_;clear n0_ n1_ n2_ n3_;(try clear hb);(try clear hb2);(try clear hk);(try clear hi))|((with_reducible refine gate_callee (f:=52) rfl ?_);refine goesL_ (some 41) rfl rfl Try.func52 (by kernel_rfl) rfl #[.pointer (some ⟨g,0,none⟩),.int .i64 2] rfl (by (try simp only [List.map_toArray,List.map_cons,List.map_nil]);first|done|rfl|(simp only [List.length_drop,List.length_take];rfl)) ?_;(with_reducible refine (spec_l20Rd_pick.calls k1 g s0_0 t188 2 t189 t190 w0 _ ?side1 ?side2 A27.out).mono ?_);(case side1 => repeat (first|(with_reducible first|exact HI0.out|apply IsS60.alloc|apply IsS60.drewN|apply IsS60.drew|apply IsS60.set_1)|exact HI0.out));(case side2 => repeat (first|(with_reducible first|exact HB.out|apply bA|apply bN|apply bD|refine below_set ?_ (IsS60.ge HI0.out))|exact HB.out));rintro e w38 ⟨rfl,hi,hb,hk⟩;refine ⟨_,rfl,?_⟩;have n0_:=Aside0.mk (Kd.R_mono (Kd.R_keep (IsS60.apart (show IsS60 w0 _ g s0_0 t188 from by repeat (first|(with_reducible first|exact HI0.out|apply IsS60.alloc|apply IsS60.drewN|apply IsS60.drew|apply IsS60.set_1)|exact HI0.out)) (by (with_reducible repeat first|apply rA|apply rN|apply rD);exact HO_9.out) (by decide)) hk (fun _ h => h.2)) (fun _ h => h.1));have n1_:=Aside0.mk (KeepBut.trans (by repeat (first|(with_reducible first|exact HK.out|apply KeepBut.set_|apply keep_drewN|apply keep_drew|apply keep_alloc)|exact HK.out)) hk (.inl rfl));have n2_:=Aside0.mk (hb);have n3_:=Aside0.mk (hi);clear HO_9;clear HK;clear HB;clear HI0;have HO_9:=n0_;have HK:=n1_;have HB:=n2_;have HI0:=n3_;clear n0_ n1_ n2_ n3_;(try clear hb);(try clear hb2);(try clear hk);(try clear hi);obtain ⟨Ao39,co39,eo39⟩:=kS HO_9.out;subst eo39;have p36 : 0 ≤ ((ji33) : Int):=oD (by first|(with_reducible assumption)|assumption);have q36 : ((ji33) : Int) < ((x9_1.length : Int) : Int):=oD (by first|(with_reducible assumption)|assumption);obtain ⟨go36,co36,eo36,gb36,gl36,cl36,HG36⟩:=Kd.R_form HO_9.out (by omega);(first|cases eo36|(injection eo36 with ea_ en_ ec_;(first|subst ea_|(injection ea_ with ea_;subst ea_));subst ec_;clear en_));have GB36:=Aside0.mk gb36;have GG36:=Aside0.mk HG36;clear gb36 gl36 HG36;obtain ⟨hx36_0,hf36_0⟩:=Kd.R_celln 0 HO_9.out ((ji33) : Int) p36 q36;replace p36:=eq_true p36;replace q36:=eq_true q36;obtain ⟨hy40_,hz40_⟩:=Kd.R_celln 0 HO_9.out ((ji33) : Int) (oD (by first|(with_reducible assumption)|assumption)) (oD (by first|(with_reducible assumption)|assumption));have HP40:=Kd.R_putg HO_9.out ((ji33) : Int) a2)|((with_reducible refine gate_store (t:=3) (p:=47) rfl ?_);refine store_event (t:=3) (p:=47) (v:=?vo_w41) (w1:=(w38.setCell ⟨go36,((ji33) : Int).toNat,none⟩ (.int .i64 a2))) ?hg ?ho ?hn ?hr ?_;(case ho => rfl);(case hg => rfl);(case hn => rfl);(case hr => first|(go_simp;done)|(go_simp;rfl));intro w41 hw;have hg : w38.grownBy w41 (some go36):=(by rw [hw];exact HP40.2);have hp_ : Kd.R (Kd.int .i64) 3 w41 w.heap.size (fun _ => True) (.slice (some ⟨go36,0,none⟩) x9_1.length co39) y194:=(by rw [hw,Ny194.out];exact HP40.1);clear HP40;have n0_:=Aside0.mk (hp_);have n1_:=Aside0.mk (IsS60.grown (by repeat (first|(with_reducible first|exact HI0.out|apply IsS60.alloc|apply IsS60.drewN|apply IsS60.drew|apply IsS60.set_1)|exact HI0.out)) hg (IsS60.own_ne HI0.out HO_9.out (by decide)));have n2_:=Aside0.mk ((by rw [hw];exact below_set (HB.out) (Nat.le_trans HL.out GB36.out) : Below w0.heap.size w0 w41));have n3_:=Aside0.mk (KeepBut.trans (by repeat (first|(with_reducible first|exact HK.out|apply KeepBut.set_|apply keep_drewN|apply keep_drew|apply keep_alloc)|exact HK.out)) (KeepBut.of_grown hg g) (Kd.R_base2 HO_9.out));clear HO_9;clear HI0;clear HB;clear HK;have HO_9:=n0_;have HI0:=n1_;have HB:=n2_;have HK:=n3_;clear n0_ n1_ n2_ n3_;clear hg hw hp_))
        go_ret
        exact ⟨_, by first|rfl|(simp [errW_none, errW_some] <;> rfl)|(simp only [← hji33]; first|rfl|(simp [errW_none, errW_some] <;> rfl))|(simp [*, errW_none, errW_some] <;> rfl), by (with_reducible repeat first|apply rA|apply rN|apply rD); exact HO_9.out, by repeat (first|(with_reducible first|exact HI0.out|apply IsS60.alloc|apply IsS60.drewN|apply IsS60.drew|apply IsS60.set_1)|exact HI0.out), by repeat (first|(with_reducible first|exact HB.out|apply bA|apply bN|apply bD|refine below_set ?_ (IsS60.ge HI0.out))|exact HB.out), by repeat (first|(with_reducible first|exact HK.out|apply KeepBut.set_|apply keep_drewN|apply keep_drew|apply keep_alloc)|exact HK.out)⟩
       ·rw [if_neg c35] at H
        exact absurd H (by simp)
      ·rw [if_neg c34] at H
       exact absurd H (by simp)
    ·replace c26 := Bool.eq_false_iff.mpr c26
     subst c26
     have H1 : (some (x9_1, t188)) = some (r1, r2) := by rw [if_neg (show ¬ (false = true) by decide)] at H; exact H
     clear H
     have H := H1
     clear H1
     simp only [Option.some.injEq, Prod.mk.injEq] at H
     obtain ⟨rfl, rfl⟩ := H
     go_wp2_with (first|((with_reducible refine gate_callee (f:=64) rfl ?_);refine goesL_ (some 39) rfl rfl Try.func64 (by kernel_rfl) rfl #[.pointer (some ⟨g,0,none⟩),.int .i64 a3] rfl (by (try simp only [List.map_toArray,List.map_cons,List.map_nil]);first|done|rfl|(simp only [List.length_drop,List.length_take];rfl)) ?_;(with_reducible refine (spec_l20Rd_odd.calls k1 g s0_0 x1001_1 a3 false t188 w0 _ ?side1 ?side2 A25.out).mono ?_);(case side1 => repeat (first|(with_reducible first|exact HI0.out|apply IsS60.alloc|apply IsS60.drewN|apply IsS60.drew|apply IsS60.set_1)|exact HI0.out));(case side2 => repeat (first|(with_reducible first|exact HB.out|apply bA|apply bN|apply bD|refine below_set ?_ (IsS60.ge HI0.out))|exact HB.out));rintro e w42 ⟨rfl,hi,hb,hk⟩;refine ⟨_,rfl,?_⟩;have n0_:=Aside0.mk (Kd.R_mono (Kd.R_keep (IsS60.apart (show IsS60 w0 _ g s0_0 x1001_1 from by repeat (first|(with_reducible first|exact HI0.out|apply IsS60.alloc|apply IsS60.drewN|apply IsS60.drew|apply IsS60.set_1)|exact HI0.out)) (by (with_reducible repeat first|apply rA|apply rN|apply rD);exact HO_9.out) (by decide)) hk (fun _ h => h.2)) (fun _ h => h.1));have n1_:=Aside0.mk (KeepBut.trans (by repeat (first|(with_reducible first|exact HK.out|apply KeepBut.set_|apply keep_drewN|apply keep_drew|apply keep_alloc)|exact HK.out)) hk (.inl rfl));have n2_:=Aside0.mk (hb);have n3_:=Aside0.mk (hi);clear HO_9;clear HK;clear HB;clear HI0;have HO_9:=n0_;have HK:=n1_;have HB:=n2_;have HI0:=n3_;clear n0_ n1_ n2_ n3_;(try clear hb);(try clear hb2);(try clear hk);(try clear hi)))
     go_ret
     exact ⟨_, by first|rfl|(simp [errW_none, errW_some] <;> rfl)|(simp [*, errW_none, errW_some] <;> rfl), by (with_reducible repeat first|apply rA|apply rN|apply rD); exact HO_9.out, by repeat (first|(with_reducible first|exact HI0.out|apply IsS60.alloc|apply IsS60.drewN|apply IsS60.drew|apply IsS60.set_1)|exact HI0.out), by repeat (first|(with_reducible first|exact HB.out|apply bA|apply bN|apply bD|refine below_set ?_ (IsS60.ge HI0.out))|exact HB.out), by repeat (first|(with_reducible first|exact HK.out|apply KeepBut.set_|apply keep_drewN|apply keep_drew|apply keep_alloc)|exact HK.out)⟩

/-! ### spec_l20Turn: function 39 -/
def spec_l20Turn.f (k : Nat) (s0_0 : List Int) (s0_1 : Int) (a1 : Int) : Option (List Int × List Int × Int) := (spec_l20Net.f k s0_0 s0_1 (wrap64 (a1 * 2))).bind fun bt195 => ((spec_l20State.f k s0_0 bt195.2 (mx (bt195.1.length : Int) 1) 3 (wrap64 (a1 * 2))).bind fun bt199 => ((spec_l20Rd_odd.f k s0_0 bt199.2 (wrap64 (a1 * 2))).bind fun bt203 => (if bt203.1 = true then (if bt199.1.length < 17592186044416 then (some (bt195.1, (bt199.1 ++ [0]), bt203.2)) else (none)) else (some (bt195.1, bt199.1, bt203.2)))))
theorem spec_l20Turn.mono : ∀ a0 a1 a2 k, LeO (spec_l20Turn.f k a0 a1 a2) (spec_l20Turn.f (k + 1) a0 a1 a2) := by
 intro a0 a1 a2 k
 unfold spec_l20Turn.f
 repeat' first|(with_reducible first|exact spec_l20Net.mono _ _ _ _|exact spec_l20Rd_odd.mono _ _ _ _|exact spec_l20State.mono _ _ _ _ _ _|exact LeO.refl _|exact LeO.none _|refine LeO.ite ?_ ?_|refine LeO.bind ?_ (fun _ => ?_))|exact spec_l20Net.mono _ _ _ _|exact spec_l20Rd_odd.mono _ _ _ _|exact spec_l20State.mono _ _ _ _ _ _|exact LeO.none _|refine LeO.ite ?_ ?_|refine LeO.bind ?_ (fun _ => ?_)
set_option maxHeartbeats 8000000 in
set_option maxRecDepth 100000 in
theorem spec_l20Turn.calls (k : Nat) (g : Nat) (s0_0 : List Int) (s0_1 : Int) (a1 : Int) (r1 : List Int) (r2 : List Int) (r3 : Int) (w0 w : World) (hI : IsS60 w0 w g s0_0 s0_1) (hB : Below w0.heap.size w0 w) (h : spec_l20Turn.f k s0_0 s0_1 a1 = some (r1, r2, r3)) :
  Calls Try.prog 39 #[.pointer (some ⟨g, 0, none⟩), .int .i64 a1] w fun e w' => ∃ v0_ v1_ : Value, e = .returned (.tuple #[v0_, v1_]) ∧ Kd.R (Kd.int .i64) 3 w' w.heap.size (fun k_ => some k_ ≠ (v1_ : Value).ownBlock) v0_ r1 ∧ Kd.R (Kd.int .i64) 3 w' w.heap.size (fun k_ => some k_ ≠ (v0_ : Value).ownBlock) v1_ r2 ∧ IsS60 w0 w' g s0_0 r3 ∧ Below w0.heap.size w0 w' ∧ KeepBut w w' g none := by
 have HI0 := Aside0.mk hI
 have HK := Aside0.mk (KeepBut.refl w g none)
 have HL := Aside0.mk hB.size
 clear hI
 have HW0 := Aside0.mk hB.size
 have HB := Aside0.mk hB
 clear hB
 have H : ((spec_l20Net.f k s0_0 s0_1 (wrap64 (a1 * 2))).bind fun bt195 => ((spec_l20State.f k s0_0 bt195.2 (mx (bt195.1.length : Int) 1) 3 (wrap64 (a1 * 2))).bind fun bt199 => ((spec_l20Rd_odd.f k s0_0 bt199.2 (wrap64 (a1 * 2))).bind fun bt203 => (if bt203.1 = true then (if bt199.1.length < 17592186044416 then (some (bt195.1, (bt199.1 ++ [0]), bt203.2)) else (none)) else (some (bt195.1, bt199.1, bt203.2)))))) = some (r1, r2, r3) := h
 clear h
 replace H := Option.bind_eq_some_iff.mp H
 obtain ⟨⟨t195, t198⟩, A30, H⟩ := H
 replace H : ((spec_l20State.f k s0_0 t198 (mx (t195.length : Int) 1) 3 (wrap64 (a1 * 2))).bind fun bt199 => ((spec_l20Rd_odd.f k s0_0 bt199.2 (wrap64 (a1 * 2))).bind fun bt203 => (if bt203.1 = true then (if bt199.1.length < 17592186044416 then (some (t195, (bt199.1 ++ [0]), bt203.2)) else (none)) else (some (t195, bt199.1, bt203.2))))) = some (r1, r2, r3) := H
 have A3 := Aside0.mk A30
 clear A30
 obtain ⟨ji4, hji4⟩ : ∃ j_ : Int, (mx (t195.length : Int) 1) = j_ := ⟨_, rfl⟩
 replace H : ((spec_l20State.f k s0_0 t198 (ji4) 3 (wrap64 (a1 * 2))).bind fun bt199 => ((spec_l20Rd_odd.f k s0_0 bt199.2 (wrap64 (a1 * 2))).bind fun bt203 => (if bt203.1 = true then (if bt199.1.length < 17592186044416 then (some (t195, (bt199.1 ++ [0]), bt203.2)) else (none)) else (some (t195, bt199.1, bt203.2))))) = some (r1, r2, r3) := by first|(rw [hji4] at H; exact H)|(simp only [hji4] at H ⊢; exact H)
 (try rw [hji4] at A3)
 (try (have hji4l : 1 ≤ ji4 := by (rw [← hji4]; unfold mx; (repeat' split) <;> omega)))
 (try (have hji4m : 0 ≤ ji4 := by omega))
 have hji4_ : (if (t195.length : Int) < 1 then 1 else (t195.length : Int)) = ji4 := hji4
 replace H := Option.bind_eq_some_iff.mp H
 obtain ⟨⟨t199, t202⟩, A50, H⟩ := H
 replace H : ((spec_l20Rd_odd.f k s0_0 t202 (wrap64 (a1 * 2))).bind fun bt203 => (if bt203.1 = true then (if t199.length < 17592186044416 then (some (t195, (t199 ++ [0]), bt203.2)) else (none)) else (some (t195, t199, bt203.2)))) = some (r1, r2, r3) := H
 have A5 := Aside0.mk A50
 clear A50
 replace H := Option.bind_eq_some_iff.mp H
 obtain ⟨⟨t203, t204⟩, A60, H⟩ := H
 replace H : (if t203 = true then (if t199.length < 17592186044416 then (some (t195, (t199 ++ [0]), t204)) else (none)) else (some (t195, t199, t204))) = some (r1, r2, r3) := H
 have A6 := Aside0.mk A60
 clear A60
 by_cases c7 : t203 = true
 ·subst c7
  have H1 : (if t199.length < 17592186044416 then (some (t195, (t199 ++ [0]), t204)) else (none)) = some (r1, r2, r3) := by rw [if_pos rfl] at H; exact H
  clear H
  have H := H1
  clear H1
  by_cases c8 : t199.length < 17592186044416
  ·rw [if_pos c8] at H
   have LMc8 := Aside0.mk c8
   clear c8
   obtain ⟨y205, hy205⟩ : ∃ y_ : List Int, y_ = (t199 ++ [0]) := ⟨_, rfl⟩
   replace H : (some (t195, y205, t204)) = some (r1, r2, r3) := by first|(rw [hy205]; with_reducible exact H)|(have H2_ := (Option.bind_some _ _).symm.trans H; rw [hy205]; with_reducible exact H2_)|(have H2_ := (Option.bind_some _ _).symm.trans H; with_reducible exact H2_)|with_reducible exact H|(rw [hy205]; exact H)|exact H
   have Ny205 := Aside0.mk hy205
   clear hy205
   simp only [Option.some.injEq, Prod.mk.injEq] at H
   obtain ⟨rfl, rfl, rfl⟩ := H
   go_enter Try.func39, Try.ntmps39
   go_wp2_with (first|((with_reducible refine gate_callee (f:=62) rfl ?_);refine goesL_ (some 11) rfl rfl Try.func62 (by kernel_rfl) rfl #[.pointer (some ⟨g,0,none⟩),.int .i64 (wrap64 (a1 * 2))] rfl (by (try simp only [List.map_toArray,List.map_cons,List.map_nil]);first|done|rfl|(simp only [List.length_drop,List.length_take];rfl)) ?_;(with_reducible refine (spec_l20Net.calls k g s0_0 s0_1 (wrap64 (a1 * 2)) t195 t198 w0 _ ?side1 ?side2 A3.out).mono ?_);(case side1 => repeat (first|(with_reducible first|exact HI0.out|apply IsS60.alloc|apply IsS60.drewN|apply IsS60.drew|apply IsS60.set_1)|exact HI0.out));(case side2 => repeat (first|(with_reducible first|exact HB.out|apply bA|apply bN|apply bD|refine below_set ?_ (IsS60.ge HI0.out))|exact HB.out));rintro e w9 ⟨v196,rfl,ho0,hi,hb,hk⟩;refine ⟨_,rfl,?_⟩;have n0_:=Aside0.mk (Kd.R_lower ho0 (keep_size (w:=w) (g:=g) (row:=none) (by repeat (first|(with_reducible first|exact HK.out|apply KeepBut.set_|apply keep_drewN|apply keep_drew|apply keep_alloc)|exact HK.out))));have n1_:=Aside0.mk (KeepBut.trans (by repeat (first|(with_reducible first|exact HK.out|apply KeepBut.set_|apply keep_drewN|apply keep_drew|apply keep_alloc)|exact HK.out)) hk (.inl rfl));have n2_:=Aside0.mk (hb);have n3_:=Aside0.mk (hi);clear HK;clear HB;clear HI0;have HO197:=n0_;have HK:=n1_;have HB:=n2_;have HI0:=n3_;clear n0_ n1_ n2_ n3_;(try clear hb);(try clear hb2);(try clear hk);(try clear hi);(try clear ho0);obtain ⟨Ao10,co10,eo10⟩:=kS HO197.out;subst eo10)|((with_reducible refine gate_callee (f:=63) rfl ?_);refine goesL_ (some 18) rfl rfl Try.func63 (by kernel_rfl) rfl #[.pointer (some ⟨g,0,none⟩),.int .i64 ji4,.int .i64 3,.int .i64 (wrap64 (a1 * 2))] rfl (by (try simp only [List.map_toArray,List.map_cons,List.map_nil]);first|done|(simp only [hji4];rfl)|rfl|(simp only [List.length_drop,List.length_take];rfl)) ?_;(with_reducible refine (spec_l20State.calls k g s0_0 t198 ji4 3 (wrap64 (a1 * 2)) t199 t202 w0 _ ?side1 ?side2 A5.out).mono ?_);(case side1 => repeat (first|(with_reducible first|exact HI0.out|apply IsS60.alloc|apply IsS60.drewN|apply IsS60.drew|apply IsS60.set_1)|exact HI0.out));(case side2 => repeat (first|(with_reducible first|exact HB.out|apply bA|apply bN|apply bD|refine below_set ?_ (IsS60.ge HI0.out))|exact HB.out));rintro e w11 ⟨v200,rfl,ho0,hi,hb,hk⟩;refine ⟨_,rfl,?_⟩;have n0_:=Aside0.mk (Kd.R_mono (Kd.R_told (Kd.R_oldK (IsS60.apart (show IsS60 w0 _ g s0_0 t198 from by repeat (first|(with_reducible first|exact HI0.out|apply IsS60.alloc|apply IsS60.drewN|apply IsS60.drew|apply IsS60.set_1)|exact HI0.out)) (by (with_reducible repeat first|apply rA|apply rN|apply rD);exact HO197.out) (by decide)) hk) (Kd.R_base ho0)) (fun _ h_ => h_.1));have n1_:=Aside0.mk (Kd.R_lower (kN ho0 (Kd.R_lt (by (with_reducible repeat first|apply rA|apply rN|apply rD);exact HO197.out))) (keep_size (w:=w) (g:=g) (row:=none) (by repeat (first|(with_reducible first|exact HK.out|apply KeepBut.set_|apply keep_drewN|apply keep_drew|apply keep_alloc)|exact HK.out))));have n2_:=Aside0.mk (KeepBut.trans (by repeat (first|(with_reducible first|exact HK.out|apply KeepBut.set_|apply keep_drewN|apply keep_drew|apply keep_alloc)|exact HK.out)) hk (.inl rfl));have n3_:=Aside0.mk (hb);have n4_:=Aside0.mk (hi);clear HO197;clear HK;clear HB;clear HI0;have HO197:=n0_;have HO201:=n1_;have HK:=n2_;have HB:=n3_;have HI0:=n4_;clear n0_ n1_ n2_ n3_ n4_;(try clear hb);(try clear hb2);(try clear hk);(try clear hi);(try clear ho0))|((with_reducible refine gate_callee (f:=64) rfl ?_);refine goesL_ (some 22) rfl rfl Try.func64 (by kernel_rfl) rfl #[.pointer (some ⟨g,0,none⟩),.int .i64 (wrap64 (a1 * 2))] rfl (by (try simp only [List.map_toArray,List.map_cons,List.map_nil]);first|done|rfl|(simp only [List.length_drop,List.length_take];rfl)) ?_;(with_reducible refine (spec_l20Rd_odd.calls k g s0_0 t202 (wrap64 (a1 * 2)) true t204 w0 _ ?side1 ?side2 A6.out).mono ?_);(case side1 => repeat (first|(with_reducible first|exact HI0.out|apply IsS60.alloc|apply IsS60.drewN|apply IsS60.drew|apply IsS60.set_1)|exact HI0.out));(case side2 => repeat (first|(with_reducible first|exact HB.out|apply bA|apply bN|apply bD|refine below_set ?_ (IsS60.ge HI0.out))|exact HB.out));rintro e w12 ⟨rfl,hi,hb,hk⟩;refine ⟨_,rfl,?_⟩;have n0_:=Aside0.mk (Kd.R_mono (Kd.R_keep (IsS60.apart (show IsS60 w0 _ g s0_0 t202 from by repeat (first|(with_reducible first|exact HI0.out|apply IsS60.alloc|apply IsS60.drewN|apply IsS60.drew|apply IsS60.set_1)|exact HI0.out)) (by (with_reducible repeat first|apply rA|apply rN|apply rD);exact HO197.out) (by decide)) hk (fun _ h => h.2)) (fun _ h => h.1));have n1_:=Aside0.mk (Kd.R_mono (Kd.R_keep (IsS60.apart (show IsS60 w0 _ g s0_0 t202 from by repeat (first|(with_reducible first|exact HI0.out|apply IsS60.alloc|apply IsS60.drewN|apply IsS60.drew|apply IsS60.set_1)|exact HI0.out)) (by (with_reducible repeat first|apply rA|apply rN|apply rD);exact HO201.out) (by decide)) hk (fun _ h => h.2)) (fun _ h => h.1));have n2_:=Aside0.mk (KeepBut.trans (by repeat (first|(with_reducible first|exact HK.out|apply KeepBut.set_|apply keep_drewN|apply keep_drew|apply keep_alloc)|exact HK.out)) hk (.inl rfl));have n3_:=Aside0.mk (hb);have n4_:=Aside0.mk (hi);clear HO197;clear HO201;clear HK;clear HB;clear HI0;have HO197:=n0_;have HO201:=n1_;have HK:=n2_;have HB:=n3_;have HI0:=n4_;clear n0_ n1_ n2_ n3_ n4_;(try clear hb);(try clear hb2);(try clear hk);(try clear hi))|((with_reducible refine gate_builtin (b:=.append) (xs:=#[.tmp 23,.tmp 24]) rfl ?_);at_builtin;refine Kd.R_append (Kd.int .i64) w.heap.size rfl (.tmp 23) (.tmp 24) 23 3 (.int .i64 0) 8 rfl Try.underlying23 info3 rfl (by decide) (by omega) v200 t199 0 [.int .i64 0] (fun k_ => some k_ ≠ (.slice Ao10 t195.length co10 : Value).ownBlock) (fun _ => False) rfl rfl ?aP (fun _ hk => hk.elim) ?aF ?aO (Below.refl _ _) ?aS ?aL ?_;(case aP => exact rfl);(case aF => exact (fun k_ hk => Kd.fresh' (Kd.R_lt (by (with_reducible repeat first|apply rA|apply rN|apply rD);exact HO197.out)) k_ hk));(case aO => exact (by (with_reducible repeat first|apply rA|apply rN|apply rD);exact Kd.R_mono HO201.out (fun _ hk => hk.2)));(case aS => exact (keep_size (w:=w) (g:=g) (row:=none) (by repeat (first|(with_reducible first|exact HK.out|apply KeepBut.set_|apply keep_drewN|apply keep_drew|apply keep_alloc)|exact HK.out))));(case aL => have:=LMc8.out;omega);intro v206 w13 ho hb hg hat;rw [← Ny205.out] at ho;have n0_:=Aside0.mk (IsS60.grown (by repeat (first|(with_reducible first|exact HI0.out|apply IsS60.alloc|apply IsS60.drewN|apply IsS60.drew|apply IsS60.set_1)|exact HI0.out)) hg (IsS60.own_ne HI0.out HO201.out (by decide)));have n1_:=Aside0.mk (Kd.R_after (ok:=(fun _ => True)) (by (with_reducible repeat first|apply rA|apply rN|apply rD);first|exact HO197.out|exact Kd.R_mono HO197.out (fun _ hk => by (obtain ⟨hk1_,hk2_⟩:=hk;(try obtain ⟨ha_,hk1_⟩:=hk1_);(try obtain ⟨hb_,hk1_⟩:=hk1_);(try obtain ⟨hc_,hk1_⟩:=hk1_);(repeat' apply And.intro) <;> assumption))) hg hat);have n2_:=Aside0.mk (below_weaken (by repeat (first|(with_reducible first|exact HB.out|apply bA|apply bN|apply bD|refine below_set ?_ (IsS60.ge HI0.out))|exact HB.out)) HL.out hb);have n3_:=Aside0.mk (KeepBut.trans (by repeat (first|(with_reducible first|exact HK.out|apply KeepBut.set_|apply keep_drewN|apply keep_drew|apply keep_alloc)|exact HK.out)) (KeepBut.of_grown hg g) (Kd.R_base2 HO201.out));have n4_:=Aside0.mk (ho);clear HI0;clear HO197;clear HB;clear HK;clear HO201;have HI0:=n0_;have HO197:=n1_;have HB:=n2_;have HK:=n3_;have HO207:=n4_;clear n0_ n1_ n2_ n3_ n4_;clear ho hb hg hat))
   go_ret2
   exact ⟨_, _, by first|rfl|(simp [errW_none, errW_some] <;> rfl)|(simp only [← hji4]; first|rfl|(simp [errW_none, errW_some] <;> rfl))|(simp [*, errW_none, errW_some] <;> rfl), by (with_reducible repeat first|apply rA|apply rN|apply rD); exact Kd.R_mono HO197.out (fun _ hk => hk.2), by (with_reducible repeat first|apply rA|apply rN|apply rD); exact HO207.out, by repeat (first|(with_reducible first|exact HI0.out|apply IsS60.alloc|apply IsS60.drewN|apply IsS60.drew|apply IsS60.set_1)|exact HI0.out), by repeat (first|(with_reducible first|exact HB.out|apply bA|apply bN|apply bD|refine below_set ?_ (IsS60.ge HI0.out))|exact HB.out), by repeat (first|(with_reducible first|exact HK.out|apply KeepBut.set_|apply keep_drewN|apply keep_drew|apply keep_alloc)|exact HK.out)⟩
  ·rw [if_neg c8] at H
   exact absurd H (by simp)
 ·replace c7 := Bool.eq_false_iff.mpr c7
  subst c7
  have H1 : (some (t195, t199, t204)) = some (r1, r2, r3) := by rw [if_neg (show ¬ (false = true) by decide)] at H; exact H
  clear H
  have H := H1
  clear H1
  simp only [Option.some.injEq, Prod.mk.injEq] at H
  obtain ⟨rfl, rfl, rfl⟩ := H
  go_enter Try.func39, Try.ntmps39
  go_wp2_with (first|((with_reducible refine gate_callee (f:=62) rfl ?_);refine goesL_ (some 11) rfl rfl Try.func62 (by kernel_rfl) rfl #[.pointer (some ⟨g,0,none⟩),.int .i64 (wrap64 (a1 * 2))] rfl (by (try simp only [List.map_toArray,List.map_cons,List.map_nil]);first|done|rfl|(simp only [List.length_drop,List.length_take];rfl)) ?_;(with_reducible refine (spec_l20Net.calls k g s0_0 s0_1 (wrap64 (a1 * 2)) t195 t198 w0 _ ?side1 ?side2 A3.out).mono ?_);(case side1 => repeat (first|(with_reducible first|exact HI0.out|apply IsS60.alloc|apply IsS60.drewN|apply IsS60.drew|apply IsS60.set_1)|exact HI0.out));(case side2 => repeat (first|(with_reducible first|exact HB.out|apply bA|apply bN|apply bD|refine below_set ?_ (IsS60.ge HI0.out))|exact HB.out));rintro e w14 ⟨v196,rfl,ho0,hi,hb,hk⟩;refine ⟨_,rfl,?_⟩;have n0_:=Aside0.mk (Kd.R_lower ho0 (keep_size (w:=w) (g:=g) (row:=none) (by repeat (first|(with_reducible first|exact HK.out|apply KeepBut.set_|apply keep_drewN|apply keep_drew|apply keep_alloc)|exact HK.out))));have n1_:=Aside0.mk (KeepBut.trans (by repeat (first|(with_reducible first|exact HK.out|apply KeepBut.set_|apply keep_drewN|apply keep_drew|apply keep_alloc)|exact HK.out)) hk (.inl rfl));have n2_:=Aside0.mk (hb);have n3_:=Aside0.mk (hi);clear HK;clear HB;clear HI0;have HO197:=n0_;have HK:=n1_;have HB:=n2_;have HI0:=n3_;clear n0_ n1_ n2_ n3_;(try clear hb);(try clear hb2);(try clear hk);(try clear hi);(try clear ho0);obtain ⟨Ao15,co15,eo15⟩:=kS HO197.out;subst eo15)|((with_reducible refine gate_callee (f:=63) rfl ?_);refine goesL_ (some 18) rfl rfl Try.func63 (by kernel_rfl) rfl #[.pointer (some ⟨g,0,none⟩),.int .i64 ji4,.int .i64 3,.int .i64 (wrap64 (a1 * 2))] rfl (by (try simp only [List.map_toArray,List.map_cons,List.map_nil]);first|done|(simp only [hji4];rfl)|rfl|(simp only [List.length_drop,List.length_take];rfl)) ?_;(with_reducible refine (spec_l20State.calls k g s0_0 t198 ji4 3 (wrap64 (a1 * 2)) t199 t202 w0 _ ?side1 ?side2 A5.out).mono ?_);(case side1 => repeat (first|(with_reducible first|exact HI0.out|apply IsS60.alloc|apply IsS60.drewN|apply IsS60.drew|apply IsS60.set_1)|exact HI0.out));(case side2 => repeat (first|(with_reducible first|exact HB.out|apply bA|apply bN|apply bD|refine below_set ?_ (IsS60.ge HI0.out))|exact HB.out));rintro e w16 ⟨v200,rfl,ho0,hi,hb,hk⟩;refine ⟨_,rfl,?_⟩;have n0_:=Aside0.mk (Kd.R_mono (Kd.R_told (Kd.R_oldK (IsS60.apart (show IsS60 w0 _ g s0_0 t198 from by repeat (first|(with_reducible first|exact HI0.out|apply IsS60.alloc|apply IsS60.drewN|apply IsS60.drew|apply IsS60.set_1)|exact HI0.out)) (by (with_reducible repeat first|apply rA|apply rN|apply rD);exact HO197.out) (by decide)) hk) (Kd.R_base ho0)) (fun _ h_ => h_.1));have n1_:=Aside0.mk (Kd.R_lower (kN ho0 (Kd.R_lt (by (with_reducible repeat first|apply rA|apply rN|apply rD);exact HO197.out))) (keep_size (w:=w) (g:=g) (row:=none) (by repeat (first|(with_reducible first|exact HK.out|apply KeepBut.set_|apply keep_drewN|apply keep_drew|apply keep_alloc)|exact HK.out))));have n2_:=Aside0.mk (KeepBut.trans (by repeat (first|(with_reducible first|exact HK.out|apply KeepBut.set_|apply keep_drewN|apply keep_drew|apply keep_alloc)|exact HK.out)) hk (.inl rfl));have n3_:=Aside0.mk (hb);have n4_:=Aside0.mk (hi);clear HO197;clear HK;clear HB;clear HI0;have HO197:=n0_;have HO201:=n1_;have HK:=n2_;have HB:=n3_;have HI0:=n4_;clear n0_ n1_ n2_ n3_ n4_;(try clear hb);(try clear hb2);(try clear hk);(try clear hi);(try clear ho0))|((with_reducible refine gate_callee (f:=64) rfl ?_);refine goesL_ (some 22) rfl rfl Try.func64 (by kernel_rfl) rfl #[.pointer (some ⟨g,0,none⟩),.int .i64 (wrap64 (a1 * 2))] rfl (by (try simp only [List.map_toArray,List.map_cons,List.map_nil]);first|done|rfl|(simp only [List.length_drop,List.length_take];rfl)) ?_;(with_reducible refine (spec_l20Rd_odd.calls k g s0_0 t202 (wrap64 (a1 * 2)) false t204 w0 _ ?side1 ?side2 A6.out).mono ?_);(case side1 => repeat (first|(with_reducible first|exact HI0.out|apply IsS60.alloc|apply IsS60.drewN|apply IsS60.drew|apply IsS60.set_1)|exact HI0.out));(case side2 => repeat (first|(with_reducible first|exact HB.out|apply bA|apply bN|apply bD|refine below_set ?_ (IsS60.ge HI0.out))|exact HB.out));rintro e w17 ⟨rfl,hi,hb,hk⟩;refine ⟨_,rfl,?_⟩;have n0_:=Aside0.mk (Kd.R_mono (Kd.R_keep (IsS60.apart (show IsS60 w0 _ g s0_0 t202 from by repeat (first|(with_reducible first|exact HI0.out|apply IsS60.alloc|apply IsS60.drewN|apply IsS60.drew|apply IsS60.set_1)|exact HI0.out)) (by (with_reducible repeat first|apply rA|apply rN|apply rD);exact HO197.out) (by decide)) hk (fun _ h => h.2)) (fun _ h => h.1));have n1_:=Aside0.mk (Kd.R_mono (Kd.R_keep (IsS60.apart (show IsS60 w0 _ g s0_0 t202 from by repeat (first|(with_reducible first|exact HI0.out|apply IsS60.alloc|apply IsS60.drewN|apply IsS60.drew|apply IsS60.set_1)|exact HI0.out)) (by (with_reducible repeat first|apply rA|apply rN|apply rD);exact HO201.out) (by decide)) hk (fun _ h => h.2)) (fun _ h => h.1));have n2_:=Aside0.mk (KeepBut.trans (by repeat (first|(with_reducible first|exact HK.out|apply KeepBut.set_|apply keep_drewN|apply keep_drew|apply keep_alloc)|exact HK.out)) hk (.inl rfl));have n3_:=Aside0.mk (hb);have n4_:=Aside0.mk (hi);clear HO197;clear HO201;clear HK;clear HB;clear HI0;have HO197:=n0_;have HO201:=n1_;have HK:=n2_;have HB:=n3_;have HI0:=n4_;clear n0_ n1_ n2_ n3_ n4_;(try clear hb);(try clear hb2);(try clear hk);(try clear hi)))
  go_ret2
  exact ⟨_, _, by first|rfl|(simp [errW_none, errW_some] <;> rfl)|(simp only [← hji4]; first|rfl|(simp [errW_none, errW_some] <;> rfl))|(simp [*, errW_none, errW_some] <;> rfl), by (with_reducible repeat first|apply rA|apply rN|apply rD); exact Kd.R_mono HO197.out (fun _ hk => hk.2), by (with_reducible repeat first|apply rA|apply rN|apply rD); exact Kd.R_mono HO201.out (fun _ hk => hk.2), by repeat (first|(with_reducible first|exact HI0.out|apply IsS60.alloc|apply IsS60.drewN|apply IsS60.drew|apply IsS60.set_1)|exact HI0.out), by repeat (first|(with_reducible first|exact HB.out|apply bA|apply bN|apply bD|refine below_set ?_ (IsS60.ge HI0.out))|exact HB.out), by repeat (first|(with_reducible first|exact HK.out|apply KeepBut.set_|apply keep_drewN|apply keep_drew|apply keep_alloc)|exact HK.out)⟩

/-! ### spec_l20Tour: function 40 -/
mutual
def spec_l20Tour.l0 : Nat → List Int → List Int → Int → List Int → Int → Option (List Int × Int)
 | 0, _, _, _, _, _ => none
 | k + 1, x1, x5, x6, x1000, x1001 => if x6 > 0 then (if 0 ≤ (wrap64 ((x5.length : Int) - 1)) then (if (wrap64 ((x5.length : Int) - 1)) < (x5.length : Int) then ((spec_l20Rd_pick.f k x1000 x1001 (x1.length : Int)).bind fun bt219 => (spec_l20Tour.l1 k x1 x5 x6 (rd x5 (wrap64 ((x5.length : Int) - 1))) bt219.1 0 x1000 bt219.2)) else (none)) else (none)) else ((spec_l20Rd_odd.f k x1000 x1001 14).bind fun bt225 => (if bt225.1 = true then ((spec_l20Rd_pick.f k x1000 bt225.2 7).bind fun bt227 => (if x5.length < 17592186044416 then (some ((x5 ++ [bt227.1]), bt227.2)) else (none))) else (some (x5, bt225.2))))
def spec_l20Tour.l1 : Nat → List Int → List Int → Int → Int → Int → Int → List Int → Int → Option (List Int × Int)
 | 0, _, _, _, _, _, _, _, _ => none
 | k + 1, x1, x5, x6, x7, x8, x9, x1000, x1001 => if x9 < (x1.length : Int) then (if (x1.length : Int) = 0 then (none) else (if 0 ≤ x7 then (if x7 < (x1.length : Int) then (if 0 ≤ (Int.tmod (wrap64 (x8 + x9)) (x1.length : Int)) then (if (Int.tmod (shr .i64 (rd x1 x7) (Int.tmod (wrap64 (x8 + x9)) (x1.length : Int))) 2) = 1 then (if x5.length < 17592186044416 then (spec_l20Tour.l0 k x1 (x5 ++ [Int.tmod (wrap64 (x8 + x9)) (x1.length : Int)]) (wrap64 (x6 - 1)) x1000 x1001) else (none)) else (spec_l20Tour.l1 k x1 x5 x6 x7 x8 (wrap64 (x9 + 1)) x1000 x1001)) else (none)) else (none)) else (none))) else (spec_l20Tour.l0 k x1 x5 (wrap64 (x6 - 1)) x1000 x1001)
end
def spec_l20Tour.f (k : Nat) (s0_0 : List Int) (s0_1 : Int) (l1 : List Int) : Option (List Int × Int) := if (l1.length : Int) = 0 then (some ((([0] : List Int)), s0_1)) else ((spec_l20Rd_pick.f k s0_0 s0_1 (l1.length : Int)).bind fun bt211 => ((spec_l20Rd_pick.f k s0_0 bt211.2 9).bind fun bt216 => (spec_l20Tour.l0 k l1 (([bt211.1] : List Int)) bt216.1 s0_0 bt216.2)))
theorem spec_l20Tour.mono_l : ∀ k, (∀ y0 y1 y2 y3 y4, LeO (spec_l20Tour.l0 k y0 y1 y2 y3 y4) (spec_l20Tour.l0 (k + 1) y0 y1 y2 y3 y4)) ∧ (∀ y0 y1 y2 y3 y4 y5 y6 y7, LeO (spec_l20Tour.l1 k y0 y1 y2 y3 y4 y5 y6 y7) (spec_l20Tour.l1 (k + 1) y0 y1 y2 y3 y4 y5 y6 y7))
 | 0 => ⟨fun _ _ _ _ _ r h => by simp [spec_l20Tour.l0] at h, fun _ _ _ _ _ _ _ _ r h => by simp [spec_l20Tour.l1] at h⟩
 | k + 1 => by
  obtain ⟨ih0, ih1⟩ := spec_l20Tour.mono_l k
  refine ⟨?_, ?_⟩
  ·intro y0 y1 y2 y3 y4
   unfold spec_l20Tour.l0
   repeat' first|(with_reducible first|exact ih0 _ _ _ _ _|exact ih1 _ _ _ _ _ _ _ _|exact spec_l20Rd_odd.mono _ _ _ _|exact spec_l20Rd_pick.mono _ _ _ _|exact LeO.refl _|exact LeO.none _|refine LeO.ite ?_ ?_|refine LeO.bind ?_ (fun _ => ?_))|exact ih0 _ _ _ _ _|exact ih1 _ _ _ _ _ _ _ _|exact spec_l20Rd_odd.mono _ _ _ _|exact spec_l20Rd_pick.mono _ _ _ _|exact LeO.none _|refine LeO.ite ?_ ?_|refine LeO.bind ?_ (fun _ => ?_)
  ·intro y0 y1 y2 y3 y4 y5 y6 y7
   unfold spec_l20Tour.l1
   repeat' first|(with_reducible first|exact ih0 _ _ _ _ _|exact ih1 _ _ _ _ _ _ _ _|exact spec_l20Rd_odd.mono _ _ _ _|exact spec_l20Rd_pick.mono _ _ _ _|exact LeO.refl _|exact LeO.none _|refine LeO.ite ?_ ?_|refine LeO.bind ?_ (fun _ => ?_))|exact ih0 _ _ _ _ _|exact ih1 _ _ _ _ _ _ _ _|exact spec_l20Rd_odd.mono _ _ _ _|exact spec_l20Rd_pick.mono _ _ _ _|exact LeO.none _|refine LeO.ite ?_ ?_|refine LeO.bind ?_ (fun _ => ?_)
theorem spec_l20Tour.mono : ∀ a0 a1 a2 k, LeO (spec_l20Tour.f k a0 a1 a2) (spec_l20Tour.f (k + 1) a0 a1 a2) := by
 intro a0 a1 a2 k
 obtain ⟨ih0, ih1⟩ := spec_l20Tour.mono_l k
 unfold spec_l20Tour.f
 repeat' first|(with_reducible first|exact ih0 _ _ _ _ _|exact ih1 _ _ _ _ _ _ _ _|exact spec_l20Rd_odd.mono _ _ _ _|exact spec_l20Rd_pick.mono _ _ _ _|exact LeO.refl _|exact LeO.none _|refine LeO.ite ?_ ?_|refine LeO.bind ?_ (fun _ => ?_))|exact ih0 _ _ _ _ _|exact ih1 _ _ _ _ _ _ _ _|exact spec_l20Rd_odd.mono _ _ _ _|exact spec_l20Rd_pick.mono _ _ _ _|exact LeO.none _|refine LeO.ite ?_ ?_|refine LeO.bind ?_ (fun _ => ?_)
set_option maxHeartbeats 8000000 in
set_option maxRecDepth 100000 in
theorem spec_l20Tour.calls (k : Nat) (g : Nat) (s0_0 : List Int) (s0_1 : Int) (A1 : Option Addr) (c1 : Nat) (l1 : List Int) (r1 : List Int) (r2 : Int) (w0 w : World) (hI : IsS60 w0 w g s0_0 s0_1) (hB : Below w0.heap.size w0 w) (hr1 : Kd.C (Kd.int .i64) w A1 l1.length l1) (hc1 : l1.length ≤ c1) (hf1 : ∀ ad, A1 = some ad → 0 < l1.length → ad.block ≠ g) (h : spec_l20Tour.f k s0_0 s0_1 l1 = some (r1, r2)) :
  Calls Try.prog 40 #[.pointer (some ⟨g, 0, none⟩), .slice A1 l1.length c1] w fun e w' => ∃ v0_ : Value, e = .returned (v0_) ∧ Kd.R (Kd.int .i64) 3 w' w.heap.size (fun _ => True) v0_ r1 ∧ IsS60 w0 w' g s0_0 r2 ∧ Below w0.heap.size w0 w' ∧ KeepBut w w' g none := by
 have HR1 := Aside0.mk hr1
 have HC1 := Aside0.mk hc1
 clear hr1 hc1
 have HI0 := Aside0.mk hI
 have HK := Aside0.mk (KeepBut.refl w g none)
 have HL := Aside0.mk hB.size
 clear hI
 have HW0 := Aside0.mk hB.size
 have HB := Aside0.mk hB
 clear hB
 have H : (if (l1.length : Int) = 0 then (some ((([0] : List Int)), s0_1)) else ((spec_l20Rd_pick.f k s0_0 s0_1 (l1.length : Int)).bind fun bt211 => ((spec_l20Rd_pick.f k s0_0 bt211.2 9).bind fun bt216 => (spec_l20Tour.l0 k l1 (([bt211.1] : List Int)) bt216.1 s0_0 bt216.2)))) = some (r1, r2) := h
 clear h
 by_cases c3 : (l1.length : Int) = 0
 ·rw [if_pos c3] at H
  have c3b0 : ((l1.length : Int) == 0) = true := beq_iff_eq.mpr c3
  have c3b1 : ((l1.length : Int) != 0) = false := bne_eq_false_iff_eq.mpr c3
  clear c3
  obtain ⟨y208, hy208⟩ : ∃ y_ : List Int, y_ = (([0] : List Int)) := ⟨_, rfl⟩
  replace H : (some (y208, s0_1)) = some (r1, r2) := by first|(rw [hy208]; with_reducible exact H)|(have H2_ := (Option.bind_some _ _).symm.trans H; rw [hy208]; with_reducible exact H2_)|(have H2_ := (Option.bind_some _ _).symm.trans H; with_reducible exact H2_)|with_reducible exact H|(rw [hy208]; exact H)|exact H
  have Ny208 := Aside0.mk hy208
  clear hy208
  simp only [Option.some.injEq, Prod.mk.injEq] at H
  obtain ⟨rfl, rfl⟩ := H
  go_enter Try.func40, Try.ntmps40
  go_wp2_with (first|((with_reducible refine gate_dst (N:=14) rfl ?_);refine Kd.R_lit (Kd.int .i64) _ 3 ?hg (N:=14) ?hd (xs:=([0] : List Int)) (inner:=[.int .i64 0]) (ok:=fun _ => True) (okp:=fun _ => True) ?hr ?hp (fun _ hk => hk) trivial (Below.refl _ _) (Nat.le_refl _) (by simp) ?_;(case hd => rfl);(case hg => rfl);(case hr => first|(go_simp;done)|(go_simp;rfl));(case hp => exact (Reps.one (show Kd.M (Kd.int .i64) _ _ _ 0 [.int .i64 0] from rfl) (Reps.none _ _)));intro v209 w4 ho5 hb hg_ hnew_;clear hg_ hnew_;(first|rw [← Ny208.out] at ho5|(simp only [Int.reduceToNat] at ho5;rw [← Ny208.out] at ho5));have n0_:=Aside0.mk (Kd.R_lower ho5 (keep_size (w:=w) (g:=g) (row:=none) (by repeat (first|(with_reducible first|exact HK.out|apply KeepBut.set_|apply keep_drewN|apply keep_drew|apply keep_alloc)|exact HK.out))));have n1_:=Aside0.mk (IsS60.below (by repeat (first|(with_reducible first|exact HI0.out|apply IsS60.alloc|apply IsS60.drewN|apply IsS60.drew|apply IsS60.set_1)|exact HI0.out)) hb);have n2_:=Aside0.mk (KeepBut.trans (by repeat (first|(with_reducible first|exact HK.out|apply KeepBut.set_|apply keep_drewN|apply keep_drew|apply keep_alloc)|exact HK.out)) (KeepBut.of_below hb g none) (.inl rfl));have n3_:=Aside0.mk (bT (by repeat (first|(with_reducible first|exact HB.out|apply bA|apply bN|apply bD|refine below_set ?_ (IsS60.ge HI0.out))|exact HB.out)) hb);clear HI0;clear HK;clear HB;have HO210:=n0_;have HI0:=n1_;have HK:=n2_;have HB:=n3_;clear n0_ n1_ n2_ n3_;clear hb ho5))
  go_ret
  exact ⟨_, by first|rfl|(simp [errW_none, errW_some] <;> rfl)|(simp [*, errW_none, errW_some] <;> rfl), by (with_reducible repeat first|apply rA|apply rN|apply rD); exact HO210.out, by repeat (first|(with_reducible first|exact HI0.out|apply IsS60.alloc|apply IsS60.drewN|apply IsS60.drew|apply IsS60.set_1)|exact HI0.out), by repeat (first|(with_reducible first|exact HB.out|apply bA|apply bN|apply bD|refine below_set ?_ (IsS60.ge HI0.out))|exact HB.out), by repeat (first|(with_reducible first|exact HK.out|apply KeepBut.set_|apply keep_drewN|apply keep_drew|apply keep_alloc)|exact HK.out)⟩
 ·rw [if_neg c3] at H
  have c3b0 : ((l1.length : Int) == 0) = false := beq_eq_false_iff_ne.mpr c3
  have c3b1 : ((l1.length : Int) != 0) = true := bne_iff_ne.mpr c3
  have c3b2 : ¬ (l1 = []) := fun h_ => c3 (by rw [h_]; rfl)
  replace H := Option.bind_eq_some_iff.mp H
  obtain ⟨⟨t211, t212⟩, A60, H⟩ := H
  replace H : ((spec_l20Rd_pick.f k s0_0 t212 9).bind fun bt216 => (spec_l20Tour.l0 k l1 (([t211] : List Int)) bt216.1 s0_0 bt216.2)) = some (r1, r2) := H
  have A6 := Aside0.mk A60
  clear A60
  obtain ⟨y213, hy213⟩ : ∃ y_ : List Int, y_ = (([t211] : List Int)) := ⟨_, rfl⟩
  replace H : ((spec_l20Rd_pick.f k s0_0 t212 9).bind fun bt216 => (spec_l20Tour.l0 k l1 y213 bt216.1 s0_0 bt216.2)) = some (r1, r2) := by first|(rw [hy213]; with_reducible exact H)|(have H2_ := (Option.bind_some _ _).symm.trans H; rw [hy213]; with_reducible exact H2_)|(have H2_ := (Option.bind_some _ _).symm.trans H; with_reducible exact H2_)|with_reducible exact H|(rw [hy213]; exact H)|exact H
  have Ny213 := Aside0.mk hy213
  clear hy213
  replace H := Option.bind_eq_some_iff.mp H
  obtain ⟨⟨t216, t217⟩, A70, H⟩ := H
  replace H : (spec_l20Tour.l0 k l1 y213 t216 s0_0 t217) = some (r1, r2) := H
  have A7 := Aside0.mk A70
  clear A70
  have H' := Aside0.mk H
  clear H
  go_enter Try.func40, Try.ntmps40
  go_wp2_with (first|((with_reducible refine gate_callee (f:=52) rfl ?_);refine goesL_ (some 18) rfl rfl Try.func52 (by kernel_rfl) rfl #[.pointer (some ⟨g,0,none⟩),.int .i64 (l1.length : Int)] rfl (by (try simp only [List.map_toArray,List.map_cons,List.map_nil]);first|done|rfl|(simp only [List.length_drop,List.length_take];rfl)) ?_;(with_reducible refine (spec_l20Rd_pick.calls k g s0_0 s0_1 (l1.length : Int) t211 t212 w0 _ ?side1 ?side2 A6.out).mono ?_);(case side1 => repeat (first|(with_reducible first|exact HI0.out|apply IsS60.alloc|apply IsS60.drewN|apply IsS60.drew|apply IsS60.set_1)|exact HI0.out));(case side2 => repeat (first|(with_reducible first|exact HB.out|apply bA|apply bN|apply bD|refine below_set ?_ (IsS60.ge HI0.out))|exact HB.out));rintro e w8 ⟨rfl,hi,hb,hk⟩;refine ⟨_,rfl,?_⟩;have n0_:=Aside0.mk (KeepBut.trans (by repeat (first|(with_reducible first|exact HK.out|apply KeepBut.set_|apply keep_drewN|apply keep_drew|apply keep_alloc)|exact HK.out)) hk (.inl rfl));have n1_:=Aside0.mk (hb);have n2_:=Aside0.mk (hi);clear HK;clear HB;clear HI0;have HK:=n0_;have HB:=n1_;have HI0:=n2_;clear n0_ n1_ n2_;(try clear hb);(try clear hb2);(try clear hk);(try clear hi))|((with_reducible refine gate_dst (N:=19) rfl ?_);refine Kd.R_lit (Kd.int .i64) _ 3 ?hg (N:=19) ?hd (xs:=([t211] : List Int)) (inner:=[.int .i64 t211]) (ok:=fun _ => True) (okp:=fun _ => True) ?hr ?hp (fun _ hk => hk) trivial (Below.refl _ _) (Nat.le_refl _) (by simp) ?_;(case hd => rfl);(case hg => rfl);(case hr => first|(go_simp;done)|(go_simp;rfl));(case hp => exact (Reps.one (show Kd.M (Kd.int .i64) _ _ _ t211 [.int .i64 t211] from rfl) (Reps.none _ _)));intro v214 w9 ho10 hb hg_ hnew_;clear hg_ hnew_;(first|rw [← Ny213.out] at ho10|(simp only [Int.reduceToNat] at ho10;rw [← Ny213.out] at ho10));have n0_:=Aside0.mk (Kd.R_lower ho10 (keep_size (w:=w) (g:=g) (row:=none) (by repeat (first|(with_reducible first|exact HK.out|apply KeepBut.set_|apply keep_drewN|apply keep_drew|apply keep_alloc)|exact HK.out))));have n1_:=Aside0.mk (IsS60.below (by repeat (first|(with_reducible first|exact HI0.out|apply IsS60.alloc|apply IsS60.drewN|apply IsS60.drew|apply IsS60.set_1)|exact HI0.out)) hb);have n2_:=Aside0.mk (KeepBut.trans (by repeat (first|(with_reducible first|exact HK.out|apply KeepBut.set_|apply keep_drewN|apply keep_drew|apply keep_alloc)|exact HK.out)) (KeepBut.of_below hb g none) (.inl rfl));have n3_:=Aside0.mk (bT (by repeat (first|(with_reducible first|exact HB.out|apply bA|apply bN|apply bD|refine below_set ?_ (IsS60.ge HI0.out))|exact HB.out)) hb);clear HI0;clear HK;clear HB;have HO215:=n0_;have HI0:=n1_;have HK:=n2_;have HB:=n3_;clear n0_ n1_ n2_ n3_;clear hb ho10)|((with_reducible refine gate_callee (f:=52) rfl ?_);refine goesL_ (some 21) rfl rfl Try.func52 (by kernel_rfl) rfl #[.pointer (some ⟨g,0,none⟩),.int .i64 9] rfl (by (try simp only [List.map_toArray,List.map_cons,List.map_nil]);first|done|rfl|(simp only [List.length_drop,List.length_take];rfl)) ?_;(with_reducible refine (spec_l20Rd_pick.calls k g s0_0 t212 9 t216 t217 w0 _ ?side1 ?side2 A7.out).mono ?_);(case side1 => repeat (first|(with_reducible first|exact HI0.out|apply IsS60.alloc|apply IsS60.drewN|apply IsS60.drew|apply IsS60.set_1)|exact HI0.out));(case side2 => repeat (first|(with_reducible first|exact HB.out|apply bA|apply bN|apply bD|refine below_set ?_ (IsS60.ge HI0.out))|exact HB.out));rintro e w11 ⟨rfl,hi,hb,hk⟩;refine ⟨_,rfl,?_⟩;have n0_:=Aside0.mk (Kd.R_mono (Kd.R_keep (IsS60.apart (show IsS60 w0 _ g s0_0 t212 from by repeat (first|(with_reducible first|exact HI0.out|apply IsS60.alloc|apply IsS60.drewN|apply IsS60.drew|apply IsS60.set_1)|exact HI0.out)) (by (with_reducible repeat first|apply rA|apply rN|apply rD);exact HO215.out) (by decide)) hk (fun _ h => h.2)) (fun _ h => h.1));have n1_:=Aside0.mk (KeepBut.trans (by repeat (first|(with_reducible first|exact HK.out|apply KeepBut.set_|apply keep_drewN|apply keep_drew|apply keep_alloc)|exact HK.out)) hk (.inl rfl));have n2_:=Aside0.mk (hb);have n3_:=Aside0.mk (hi);clear HO215;clear HK;clear HB;clear HI0;have HO215:=n0_;have HK:=n1_;have HB:=n2_;have HI0:=n3_;clear n0_ n1_ n2_ n3_;(try clear hb);(try clear hb2);(try clear hk);(try clear hi)))
  go_loopg [5, 6] k (fun kq v5 v6 w' => ∃ (x5_1 : List Int) (x6_1 : Int) (x1001_1 : Int), v6 = .int .i64 x6_1 ∧ Aside0 (spec_l20Tour.l0 kq l1 x5_1 x6_1 s0_0 x1001_1 = some (r1, r2)) ∧ Aside0 (kq ≤ k) ∧ Aside0 (Kd.R (Kd.int .i64) 3 w' w.heap.size (fun _ => True) v5 x5_1) ∧ Aside0 (IsS60 w0 w' g s0_0 x1001_1) ∧ Aside0 (KeepBut w w' g none) ∧ Aside0 (Below w0.heap.size w0 w'))
  case atStart => exact ⟨(y213), (t216), (t217), (by first|rfl|(simp; done)|(simp [*]; done)), H', ⟨Nat.le_refl _⟩, ⟨by (with_reducible repeat first|apply rA|apply rN|apply rD); exact HO215.out⟩, ⟨by repeat (first|(with_reducible first|exact HI0.out|apply IsS60.alloc|apply IsS60.drewN|apply IsS60.drew|apply IsS60.set_1)|exact HI0.out)⟩, ⟨by repeat (first|(with_reducible first|exact HK.out|apply KeepBut.set_|apply keep_drewN|apply keep_drew|apply keep_alloc)|exact HK.out)⟩, ⟨by repeat (first|(with_reducible first|exact HB.out|apply bA|apply bN|apply bD|refine below_set ?_ (IsS60.ge HI0.out))|exact HB.out)⟩⟩
  case round =>
   clear H'
   try clear c1
   try clear p2
   try clear c3
   try clear c3b0
   try clear c3b1
   try clear c3b2
   try clear c4
   try clear c5
   obtain ⟨x5_1, x6_1, x1001_1, rfl, HA, HK1, HO_5, HI0, HK, HB⟩ := hrel
   cases gk with
   | zero => exact absurd HA.out (by simp [spec_l20Tour.l0])
   | succ k1 =>
    have H := HA.out
    clear HA
    simp only [spec_l20Tour.l0] at H
    by_cases c12 : x6_1 > 0
    ·rw [if_pos c12] at H
     have c12b0 : decide (0 < x6_1) = true := decide_eq_true c12
     clear c12
     obtain ⟨ji13, hji13⟩ : ∃ j_ : Int, (wrap64 ((x5_1.length : Int) - 1)) = j_ := ⟨_, rfl⟩
     replace H : (if 0 ≤ (ji13) then (if (ji13) < (x5_1.length : Int) then ((spec_l20Rd_pick.f k1 s0_0 x1001_1 (l1.length : Int)).bind fun bt219 => (spec_l20Tour.l1 k1 l1 x5_1 x6_1 (rd x5_1 (ji13)) bt219.1 0 s0_0 bt219.2)) else (none)) else (none)) = some (r1, r2) := by first|(rw [hji13] at H; exact H)|(simp only [hji13] at H ⊢; exact H)
     have hji13w : (IntKind.i64.wrap ((x5_1.length : Int) - 1)) = ji13 := (i64_w _).trans hji13
     by_cases c14 : 0 ≤ (ji13)
     ·rw [if_pos c14] at H
      have c14b0 : decide (0 ≤ (ji13)) = true := decide_eq_true c14
      clear c14
      by_cases c15 : (ji13) < (x5_1.length : Int)
      ·rw [if_pos c15] at H
       have c15b0 : decide ((ji13) < (x5_1.length : Int)) = true := decide_eq_true c15
       clear c15
       replace H := Option.bind_eq_some_iff.mp H
       obtain ⟨⟨t219, t220⟩, A160, H⟩ := H
       replace H : (spec_l20Tour.l1 k1 l1 x5_1 x6_1 (rd x5_1 (ji13)) t219 0 s0_0 t220) = some (r1, r2) := H
       have A16 := Aside0.mk A160
       clear A160
       have H' := Aside0.mk H
       clear H
       obtain ⟨Ao17, co17, eo17⟩ := kS HO_5.out
       subst eo17
       have p218 : 0 ≤ ((ji13) : Int) := oD (by first|(with_reducible assumption)|assumption)
       have q218 : (ji13) < (x5_1.length : Int) := oD (by first|(with_reducible assumption)|assumption)
       obtain ⟨ad218, e218, hx218_0⟩ := aI (kR HO_5.out).2.2 (ji13) p218 q218
       cases e218
       replace p218 := eq_true p218
       replace q218 := eq_true q218
       go_wp2_with (first|((with_reducible refine gate_callee (f:=52) rfl ?_);refine goesL_ (some 35) rfl rfl Try.func52 (by kernel_rfl) rfl #[.pointer (some ⟨g,0,none⟩),.int .i64 (l1.length : Int)] rfl (by (try simp only [List.map_toArray,List.map_cons,List.map_nil]);first|done|rfl|(simp only [List.length_drop,List.length_take];rfl)) ?_;(with_reducible refine (spec_l20Rd_pick.calls k1 g s0_0 x1001_1 (l1.length : Int) t219 t220 w0 _ ?side1 ?side2 A16.out).mono ?_);(case side1 => repeat (first|(with_reducible first|exact HI0.out|apply IsS60.alloc|apply IsS60.drewN|apply IsS60.drew|apply IsS60.set_1)|exact HI0.out));(case side2 => repeat (first|(with_reducible first|exact HB.out|apply bA|apply bN|apply bD|refine below_set ?_ (IsS60.ge HI0.out))|exact HB.out));rintro e w18 ⟨rfl,hi,hb,hk⟩;refine ⟨_,rfl,?_⟩;have n0_:=Aside0.mk (Kd.R_mono (Kd.R_keep (IsS60.apart (show IsS60 w0 _ g s0_0 x1001_1 from by repeat (first|(with_reducible first|exact HI0.out|apply IsS60.alloc|apply IsS60.drewN|apply IsS60.drew|apply IsS60.set_1)|exact HI0.out)) (by (with_reducible repeat first|apply rA|apply rN|apply rD);exact HO_5.out) (by decide)) hk (fun _ h => h.2)) (fun _ h => h.1));have n1_:=Aside0.mk (KeepBut.trans (by repeat (first|(with_reducible first|exact HK.out|apply KeepBut.set_|apply keep_drewN|apply keep_drew|apply keep_alloc)|exact HK.out)) hk (.inl rfl));have n2_:=Aside0.mk (hb);have n3_:=Aside0.mk (hi);clear HO_5;clear HK;clear HB;clear HI0;have HO_5:=n0_;have HK:=n1_;have HB:=n2_;have HI0:=n3_;clear n0_ n1_ n2_ n3_;(try clear hb);(try clear hb2);(try clear hk);(try clear hi)))
       go_loopg [5, 9] k1 (fun kq v5 v9 w' => ∃ (x5_2 : List Int) (x9_2 : Int), v9 = .int .i64 x9_2 ∧ Aside0 (spec_l20Tour.l1 kq l1 x5_2 x6_1 (rd x5_1 (ji13)) t219 x9_2 s0_0 t220 = some (r1, r2)) ∧ Aside0 (kq ≤ k1) ∧ Aside0 (Kd.R (Kd.int .i64) 3 w' w.heap.size (fun _ => True) v5 x5_2) ∧ Aside0 (IsS60 w0 w' g s0_0 t220) ∧ Aside0 (KeepBut w w' g none) ∧ Aside0 (Below w0.heap.size w0 w'))
       case atStart => exact ⟨(x5_1), (0), (by first|rfl|(simp; done)|(simp [*]; done)), H', ⟨Nat.le_refl _⟩, ⟨by (with_reducible repeat first|apply rA|apply rN|apply rD); exact HO_5.out⟩, ⟨by repeat (first|(with_reducible first|exact HI0.out|apply IsS60.alloc|apply IsS60.drewN|apply IsS60.drew|apply IsS60.set_1)|exact HI0.out)⟩, ⟨by repeat (first|(with_reducible first|exact HK.out|apply KeepBut.set_|apply keep_drewN|apply keep_drew|apply keep_alloc)|exact HK.out)⟩, ⟨by repeat (first|(with_reducible first|exact HB.out|apply bA|apply bN|apply bD|refine below_set ?_ (IsS60.ge HI0.out))|exact HB.out)⟩⟩
       case round =>
        clear H'
        try clear c1
        try clear p2
        try clear q2
        try clear hx2
        try clear c3
        try clear c3b0
        try clear c3b1
        try clear c3b2
        try clear c4
        try clear c5
        try clear p6
        try clear c12
        try clear c12b0
        try clear c14
        try clear c14b0
        try clear c15
        try clear c15b0
        try clear hx218_0
        try clear p2
        try clear p218
        try clear q218
        obtain ⟨x5_2, x9_2, rfl, HA, HK2, HO_5, HI0, HK, HB⟩ := hrel
        cases gk with
        | zero => exact absurd HA.out (by simp [spec_l20Tour.l1])
        | succ k2 =>
         have H := HA.out
         clear HA
         simp only [spec_l20Tour.l1] at H
         by_cases c19 : x9_2 < (l1.length : Int)
         ·rw [if_pos c19] at H
          have c19b0 : decide (x9_2 < (l1.length : Int)) = true := decide_eq_true c19
          clear c19
          by_cases c20 : (l1.length : Int) = 0
          ·rw [if_pos c20] at H
           exact absurd H (by simp)
          ·rw [if_neg c20] at H
           have c20b0 : ((l1.length : Int) == 0) = false := beq_eq_false_iff_ne.mpr c20
           have c20b1 : ((l1.length : Int) != 0) = true := bne_iff_ne.mpr c20
           have c20b2 : ¬ (l1 = []) := fun h_ => c20 (by rw [h_]; rfl)
           by_cases c21 : 0 ≤ (rd x5_1 (ji13))
           ·rw [if_pos c21] at H
            have c21b0 : decide (0 ≤ (rd x5_1 (ji13))) = true := decide_eq_true c21
            clear c21
            by_cases c22 : (rd x5_1 (ji13)) < (l1.length : Int)
            ·rw [if_pos c22] at H
             have c22b0 : decide ((rd x5_1 (ji13)) < (l1.length : Int)) = true := decide_eq_true c22
             clear c22
             obtain ⟨ji23, hji23⟩ : ∃ j_ : Int, (Int.tmod (wrap64 (t219 + x9_2)) (l1.length : Int)) = j_ := ⟨_, rfl⟩
             replace H : (if 0 ≤ (ji23) then (if (Int.tmod (shr .i64 (rd l1 (rd x5_1 (ji13))) (ji23)) 2) = 1 then (if x5_2.length < 17592186044416 then (spec_l20Tour.l0 k2 l1 (x5_2 ++ [ji23]) (wrap64 (x6_1 - 1)) s0_0 t220) else (none)) else (spec_l20Tour.l1 k2 l1 x5_2 x6_1 (rd x5_1 (ji13)) t219 (wrap64 (x9_2 + 1)) s0_0 t220)) else (none)) = some (r1, r2) := by first|(rw [hji23] at H; exact H)|(simp only [hji23] at H ⊢; exact H)
             by_cases c24 : 0 ≤ (ji23)
             ·rw [if_pos c24] at H
              have c24b0 := eq_true c24
              have c24b1 : decide (0 ≤ (ji23)) = true := decide_eq_true c24
              clear c24
              obtain ⟨ji25, hji25⟩ : ∃ j_ : Int, (shr .i64 (rd l1 (rd x5_1 (ji13))) (ji23)) = j_ := ⟨_, rfl⟩
              replace H : (if (Int.tmod (ji25) 2) = 1 then (if x5_2.length < 17592186044416 then (spec_l20Tour.l0 k2 l1 (x5_2 ++ [ji23]) (wrap64 (x6_1 - 1)) s0_0 t220) else (none)) else (spec_l20Tour.l1 k2 l1 x5_2 x6_1 (rd x5_1 (ji13)) t219 (wrap64 (x9_2 + 1)) s0_0 t220)) = some (r1, r2) := by first|(rw [hji25] at H; exact H)|(simp only [hji25] at H ⊢; exact H)
              have hji25_ : ((rd l1 (rd x5_1 (ji13))) / 2 ^ min (ji23).toNat 64) = ji25 := hji25
              have hji25z : (ji23) ≤ 64 → ((rd l1 (rd x5_1 (ji13))) / 2 ^ (ji23).toNat) = ji25 := shr_small hji25
              by_cases c26 : (Int.tmod (ji25) 2) = 1
              ·rw [if_pos c26] at H
               have c26b0 : ((Int.tmod (ji25) 2) == 1) = true := beq_iff_eq.mpr c26
               have c26b1 : ((Int.tmod (ji25) 2) != 1) = false := bne_eq_false_iff_eq.mpr c26
               clear c26
               by_cases c27 : x5_2.length < 17592186044416
               ·rw [if_pos c27] at H
                have LMc27 := Aside0.mk c27
                clear c27
                obtain ⟨y222, hy222⟩ : ∃ y_ : List Int, y_ = (x5_2 ++ [ji23]) := ⟨_, rfl⟩
                replace H : (spec_l20Tour.l0 k2 l1 y222 (wrap64 (x6_1 - 1)) s0_0 t220) = some (r1, r2) := by first|(rw [hy222]; with_reducible exact H)|(have H2_ := (Option.bind_some _ _).symm.trans H; rw [hy222]; with_reducible exact H2_)|(have H2_ := (Option.bind_some _ _).symm.trans H; with_reducible exact H2_)|with_reducible exact H|(rw [hy222]; exact H)|exact H
                have Ny222 := Aside0.mk hy222
                clear hy222
                have H' := Aside0.mk H
                clear H
                have p221 : 0 ≤ ((rd x5_1 (ji13)) : Int) := oD (by first|(with_reducible assumption)|assumption)
                have q221 : (rd x5_1 (ji13)) < (l1.length : Int) := oD (by first|(with_reducible assumption)|assumption)
                obtain ⟨ad221, e221, hx221_0⟩ := aI HR1.out (rd x5_1 (ji13)) p221 q221
                cases e221
                replace hx221_0 := keep_cell HK.out hx221_0 (by first|(rw [add_block]; exact hf1 _ rfl (by omega))|exact hf1 _ rfl (by omega)|exact hf1 ad221 rfl (by omega))
                replace p221 := eq_true p221
                replace q221 := eq_true q221
                go_wp2_with (first|((with_reducible refine gate_builtin (b:=.append) (xs:=#[.tmp 56,.tmp 58]) rfl ?_);at_builtin;refine Kd.R_append (Kd.int .i64) w.heap.size rfl (.tmp 56) (.tmp 58) 23 3 (.int .i64 0) 8 rfl Try.underlying23 info3 rfl (by decide) (by omega) u5 x5_2 ji23 [.int .i64 ji23] (fun _ => True) (fun _ => False) rfl rfl ?aP (fun _ hk => hk.elim) ?aF ?aO (Below.refl _ _) ?aS ?aL ?_;(case aP => exact rfl);(case aF => exact (fun _ _ => trivial));(case aO => exact (by (with_reducible repeat first|apply rA|apply rN|apply rD);exact HO_5.out));(case aS => exact (keep_size (w:=w) (g:=g) (row:=none) (by repeat (first|(with_reducible first|exact HK.out|apply KeepBut.set_|apply keep_drewN|apply keep_drew|apply keep_alloc)|exact HK.out))));(case aL => have:=LMc27.out;omega);intro v223 w28 ho hb hg hat;rw [← Ny222.out] at ho;have n0_:=Aside0.mk (IsS60.grown (by repeat (first|(with_reducible first|exact HI0.out|apply IsS60.alloc|apply IsS60.drewN|apply IsS60.drew|apply IsS60.set_1)|exact HI0.out)) hg (IsS60.own_ne HI0.out HO_5.out (by decide)));have n1_:=Aside0.mk (below_weaken (by repeat (first|(with_reducible first|exact HB.out|apply bA|apply bN|apply bD|refine below_set ?_ (IsS60.ge HI0.out))|exact HB.out)) HL.out hb);have n2_:=Aside0.mk (KeepBut.trans (by repeat (first|(with_reducible first|exact HK.out|apply KeepBut.set_|apply keep_drewN|apply keep_drew|apply keep_alloc)|exact HK.out)) (KeepBut.of_grown hg g) (Kd.R_base2 HO_5.out));have n3_:=Aside0.mk (ho);clear HI0;clear HB;clear HK;clear HO_5;have HI0:=n0_;have HB:=n1_;have HK:=n2_;have HO224:=n3_;clear n0_ n1_ n2_ n3_;clear ho hb hg hat))
                go_roundg k2
                case measure => have := HK1.out; have := HK2.out; omega
                case rel => exact ⟨(y222), (wrap64 (x6_1 - 1)), (t220), (by first|rfl|(simp; done)|(simp [*]; done)), H', ⟨by have := HK1.out; have := HK2.out; omega⟩, ⟨by (with_reducible repeat first|apply rA|apply rN|apply rD); exact HO224.out⟩, ⟨by repeat (first|(with_reducible first|exact HI0.out|apply IsS60.alloc|apply IsS60.drewN|apply IsS60.drew|apply IsS60.set_1)|exact HI0.out)⟩, ⟨by repeat (first|(with_reducible first|exact HK.out|apply KeepBut.set_|apply keep_drewN|apply keep_drew|apply keep_alloc)|exact HK.out)⟩, ⟨by repeat (first|(with_reducible first|exact HB.out|apply bA|apply bN|apply bD|refine below_set ?_ (IsS60.ge HI0.out))|exact HB.out)⟩⟩
               ·rw [if_neg c27] at H
                exact absurd H (by simp)
              ·rw [if_neg c26] at H
               have c26b0 : ((Int.tmod (ji25) 2) == 1) = false := beq_eq_false_iff_ne.mpr c26
               have c26b1 : ((Int.tmod (ji25) 2) != 1) = true := bne_iff_ne.mpr c26
               have H' := Aside0.mk H
               clear H
               have p221 : 0 ≤ ((rd x5_1 (ji13)) : Int) := oD (by first|(with_reducible assumption)|assumption)
               have q221 : (rd x5_1 (ji13)) < (l1.length : Int) := oD (by first|(with_reducible assumption)|assumption)
               obtain ⟨ad221, e221, hx221_0⟩ := aI HR1.out (rd x5_1 (ji13)) p221 q221
               cases e221
               replace hx221_0 := keep_cell HK.out hx221_0 (by first|(rw [add_block]; exact hf1 _ rfl (by omega))|exact hf1 _ rfl (by omega)|exact hf1 ad221 rfl (by omega))
               replace p221 := eq_true p221
               replace q221 := eq_true q221
               go_wp2
               go_roundg k2
               case measure => have := HK1.out; have := HK2.out; omega
               case rel => exact ⟨(x5_2), (wrap64 (x9_2 + 1)), (by first|rfl|(simp; done)|(simp [*]; done)), H', ⟨by have := HK1.out; have := HK2.out; omega⟩, ⟨by (with_reducible repeat first|apply rA|apply rN|apply rD); exact HO_5.out⟩, ⟨by repeat (first|(with_reducible first|exact HI0.out|apply IsS60.alloc|apply IsS60.drewN|apply IsS60.drew|apply IsS60.set_1)|exact HI0.out)⟩, ⟨by repeat (first|(with_reducible first|exact HK.out|apply KeepBut.set_|apply keep_drewN|apply keep_drew|apply keep_alloc)|exact HK.out)⟩, ⟨by repeat (first|(with_reducible first|exact HB.out|apply bA|apply bN|apply bD|refine below_set ?_ (IsS60.ge HI0.out))|exact HB.out)⟩⟩
             ·rw [if_neg c24] at H
              exact absurd H (by simp)
            ·rw [if_neg c22] at H
             exact absurd H (by simp)
           ·rw [if_neg c21] at H
            exact absurd H (by simp)
         ·rw [if_neg c19] at H
          have c19b0 : decide (x9_2 < (l1.length : Int)) = false := decide_eq_false c19
          clear c19
          have H' := Aside0.mk H
          clear H
          go_wp2
          go_roundg k2
          case measure => have := HK1.out; have := HK2.out; omega
          case rel => exact ⟨(x5_2), (wrap64 (x6_1 - 1)), (t220), (by first|rfl|(simp; done)|(simp [*]; done)), H', ⟨by have := HK1.out; have := HK2.out; omega⟩, ⟨by (with_reducible repeat first|apply rA|apply rN|apply rD); exact HO_5.out⟩, ⟨by repeat (first|(with_reducible first|exact HI0.out|apply IsS60.alloc|apply IsS60.drewN|apply IsS60.drew|apply IsS60.set_1)|exact HI0.out)⟩, ⟨by repeat (first|(with_reducible first|exact HK.out|apply KeepBut.set_|apply keep_drewN|apply keep_drew|apply keep_alloc)|exact HK.out)⟩, ⟨by repeat (first|(with_reducible first|exact HB.out|apply bA|apply bN|apply bD|refine below_set ?_ (IsS60.ge HI0.out))|exact HB.out)⟩⟩
      ·rw [if_neg c15] at H
       exact absurd H (by simp)
     ·rw [if_neg c14] at H
      exact absurd H (by simp)
    ·rw [if_neg c12] at H
     have c12b0 : decide (0 < x6_1) = false := decide_eq_false c12
     clear c12
     replace H := Option.bind_eq_some_iff.mp H
     obtain ⟨⟨t225, t226⟩, A290, H⟩ := H
     replace H : (if t225 = true then ((spec_l20Rd_pick.f k1 s0_0 t226 7).bind fun bt227 => (if x5_1.length < 17592186044416 then (some ((x5_1 ++ [bt227.1]), bt227.2)) else (none))) else (some (x5_1, t226))) = some (r1, r2) := H
     have A29 := Aside0.mk A290
     clear A290
     by_cases c30 : t225 = true
     ·subst c30
      have H1 : ((spec_l20Rd_pick.f k1 s0_0 t226 7).bind fun bt227 => (if x5_1.length < 17592186044416 then (some ((x5_1 ++ [bt227.1]), bt227.2)) else (none))) = some (r1, r2) := by rw [if_pos rfl] at H; exact H
      clear H
      have H := H1
      clear H1
      replace H := Option.bind_eq_some_iff.mp H
      obtain ⟨⟨t227, t228⟩, A310, H⟩ := H
      replace H : (if x5_1.length < 17592186044416 then (some ((x5_1 ++ [t227]), t228)) else (none)) = some (r1, r2) := H
      have A31 := Aside0.mk A310
      clear A310
      by_cases c32 : x5_1.length < 17592186044416
      ·rw [if_pos c32] at H
       have LMc32 := Aside0.mk c32
       clear c32
       obtain ⟨y229, hy229⟩ : ∃ y_ : List Int, y_ = (x5_1 ++ [t227]) := ⟨_, rfl⟩
       replace H : (some (y229, t228)) = some (r1, r2) := by first|(rw [hy229]; with_reducible exact H)|(have H2_ := (Option.bind_some _ _).symm.trans H; rw [hy229]; with_reducible exact H2_)|(have H2_ := (Option.bind_some _ _).symm.trans H; with_reducible exact H2_)|with_reducible exact H|(rw [hy229]; exact H)|exact H
       have Ny229 := Aside0.mk hy229
       clear hy229
       simp only [Option.some.injEq, Prod.mk.injEq] at H
       obtain ⟨rfl, rfl⟩ := H
       go_wp2_with (first|((with_reducible refine gate_callee (f:=64) rfl ?_);refine goesL_ (some 61) rfl rfl Try.func64 (by kernel_rfl) rfl #[.pointer (some ⟨g,0,none⟩),.int .i64 14] rfl (by (try simp only [List.map_toArray,List.map_cons,List.map_nil]);first|done|rfl|(simp only [List.length_drop,List.length_take];rfl)) ?_;(with_reducible refine (spec_l20Rd_odd.calls k1 g s0_0 x1001_1 14 true t226 w0 _ ?side1 ?side2 A29.out).mono ?_);(case side1 => repeat (first|(with_reducible first|exact HI0.out|apply IsS60.alloc|apply IsS60.drewN|apply IsS60.drew|apply IsS60.set_1)|exact HI0.out));(case side2 => repeat (first|(with_reducible first|exact HB.out|apply bA|apply bN|apply bD|refine below_set ?_ (IsS60.ge HI0.out))|exact HB.out));rintro e w33 ⟨rfl,hi,hb,hk⟩;refine ⟨_,rfl,?_⟩;have n0_:=Aside0.mk (Kd.R_mono (Kd.R_keep (IsS60.apart (show IsS60 w0 _ g s0_0 x1001_1 from by repeat (first|(with_reducible first|exact HI0.out|apply IsS60.alloc|apply IsS60.drewN|apply IsS60.drew|apply IsS60.set_1)|exact HI0.out)) (by (with_reducible repeat first|apply rA|apply rN|apply rD);exact HO_5.out) (by decide)) hk (fun _ h => h.2)) (fun _ h => h.1));have n1_:=Aside0.mk (KeepBut.trans (by repeat (first|(with_reducible first|exact HK.out|apply KeepBut.set_|apply keep_drewN|apply keep_drew|apply keep_alloc)|exact HK.out)) hk (.inl rfl));have n2_:=Aside0.mk (hb);have n3_:=Aside0.mk (hi);clear HO_5;clear HK;clear HB;clear HI0;have HO_5:=n0_;have HK:=n1_;have HB:=n2_;have HI0:=n3_;clear n0_ n1_ n2_ n3_;(try clear hb);(try clear hb2);(try clear hk);(try clear hi))|((with_reducible refine gate_callee (f:=52) rfl ?_);refine goesL_ (some 64) rfl rfl Try.func52 (by kernel_rfl) rfl #[.pointer (some ⟨g,0,none⟩),.int .i64 7] rfl (by (try simp only [List.map_toArray,List.map_cons,List.map_nil]);first|done|rfl|(simp only [List.length_drop,List.length_take];rfl)) ?_;(with_reducible refine (spec_l20Rd_pick.calls k1 g s0_0 t226 7 t227 t228 w0 _ ?side1 ?side2 A31.out).mono ?_);(case side1 => repeat (first|(with_reducible first|exact HI0.out|apply IsS60.alloc|apply IsS60.drewN|apply IsS60.drew|apply IsS60.set_1)|exact HI0.out));(case side2 => repeat (first|(with_reducible first|exact HB.out|apply bA|apply bN|apply bD|refine below_set ?_ (IsS60.ge HI0.out))|exact HB.out));rintro e w34 ⟨rfl,hi,hb,hk⟩;refine ⟨_,rfl,?_⟩;have n0_:=Aside0.mk (Kd.R_mono (Kd.R_keep (IsS60.apart (show IsS60 w0 _ g s0_0 t226 from by repeat (first|(with_reducible first|exact HI0.out|apply IsS60.alloc|apply IsS60.drewN|apply IsS60.drew|apply IsS60.set_1)|exact HI0.out)) (by (with_reducible repeat first|apply rA|apply rN|apply rD);exact HO_5.out) (by decide)) hk (fun _ h => h.2)) (fun _ h => h.1));have n1_:=Aside0.mk (KeepBut.trans (by repeat (first|(with_reducible first|exact HK.out|apply KeepBut.set_|apply keep_drewN|apply keep_drew|apply keep_alloc)|exact HK.out)) hk (.inl rfl));have n2_:=Aside0.mk (hb);have n3_:=Aside0.mk (hi);clear HO_5;clear HK;clear HB;clear HI0;have HO_5:=n0_;have HK:=n1_;have HB:=n2_;have HI0:=n3_;clear n0_ n1_ n2_ n3_;(try clear hb);(try clear hb2);(try clear hk);(try clear hi))|((with_reducible refine gate_builtin (b:=.append) (xs:=#[.tmp 62,.tmp 65]) rfl ?_);at_builtin;refine Kd.R_append (Kd.int .i64) w.heap.size rfl (.tmp 62) (.tmp 65) 23 3 (.int .i64 0) 8 rfl Try.underlying23 info3 rfl (by decide) (by omega) u5 x5_1 t227 [.int .i64 t227] (fun _ => True) (fun _ => False) rfl rfl ?aP (fun _ hk => hk.elim) ?aF ?aO (Below.refl _ _) ?aS ?aL ?_;(case aP => exact rfl);(case aF => exact (fun _ _ => trivial));(case aO => exact (by (with_reducible repeat first|apply rA|apply rN|apply rD);exact HO_5.out));(case aS => exact (keep_size (w:=w) (g:=g) (row:=none) (by repeat (first|(with_reducible first|exact HK.out|apply KeepBut.set_|apply keep_drewN|apply keep_drew|apply keep_alloc)|exact HK.out))));(case aL => have:=LMc32.out;omega);intro v230 w35 ho hb hg hat;rw [← Ny229.out] at ho;have n0_:=Aside0.mk (IsS60.grown (by repeat (first|(with_reducible first|exact HI0.out|apply IsS60.alloc|apply IsS60.drewN|apply IsS60.drew|apply IsS60.set_1)|exact HI0.out)) hg (IsS60.own_ne HI0.out HO_5.out (by decide)));have n1_:=Aside0.mk (below_weaken (by repeat (first|(with_reducible first|exact HB.out|apply bA|apply bN|apply bD|refine below_set ?_ (IsS60.ge HI0.out))|exact HB.out)) HL.out hb);have n2_:=Aside0.mk (KeepBut.trans (by repeat (first|(with_reducible first|exact HK.out|apply KeepBut.set_|apply keep_drewN|apply keep_drew|apply keep_alloc)|exact HK.out)) (KeepBut.of_grown hg g) (Kd.R_base2 HO_5.out));have n3_:=Aside0.mk (ho);clear HI0;clear HB;clear HK;clear HO_5;have HI0:=n0_;have HB:=n1_;have HK:=n2_;have HO231:=n3_;clear n0_ n1_ n2_ n3_;clear ho hb hg hat))
       go_ret
       exact ⟨_, by first|rfl|(simp [errW_none, errW_some] <;> rfl)|(simp [*, errW_none, errW_some] <;> rfl), by (with_reducible repeat first|apply rA|apply rN|apply rD); exact HO231.out, by repeat (first|(with_reducible first|exact HI0.out|apply IsS60.alloc|apply IsS60.drewN|apply IsS60.drew|apply IsS60.set_1)|exact HI0.out), by repeat (first|(with_reducible first|exact HB.out|apply bA|apply bN|apply bD|refine below_set ?_ (IsS60.ge HI0.out))|exact HB.out), by repeat (first|(with_reducible first|exact HK.out|apply KeepBut.set_|apply keep_drewN|apply keep_drew|apply keep_alloc)|exact HK.out)⟩
      ·rw [if_neg c32] at H
       exact absurd H (by simp)
     ·replace c30 := Bool.eq_false_iff.mpr c30
      subst c30
      have H1 : (some (x5_1, t226)) = some (r1, r2) := by rw [if_neg (show ¬ (false = true) by decide)] at H; exact H
      clear H
      have H := H1
      clear H1
      simp only [Option.some.injEq, Prod.mk.injEq] at H
      obtain ⟨rfl, rfl⟩ := H
      go_wp2_with (first|((with_reducible refine gate_callee (f:=64) rfl ?_);refine goesL_ (some 61) rfl rfl Try.func64 (by kernel_rfl) rfl #[.pointer (some ⟨g,0,none⟩),.int .i64 14] rfl (by (try simp only [List.map_toArray,List.map_cons,List.map_nil]);first|done|rfl|(simp only [List.length_drop,List.length_take];rfl)) ?_;(with_reducible refine (spec_l20Rd_odd.calls k1 g s0_0 x1001_1 14 false t226 w0 _ ?side1 ?side2 A29.out).mono ?_);(case side1 => repeat (first|(with_reducible first|exact HI0.out|apply IsS60.alloc|apply IsS60.drewN|apply IsS60.drew|apply IsS60.set_1)|exact HI0.out));(case side2 => repeat (first|(with_reducible first|exact HB.out|apply bA|apply bN|apply bD|refine below_set ?_ (IsS60.ge HI0.out))|exact HB.out));rintro e w36 ⟨rfl,hi,hb,hk⟩;refine ⟨_,rfl,?_⟩;have n0_:=Aside0.mk (Kd.R_mono (Kd.R_keep (IsS60.apart (show IsS60 w0 _ g s0_0 x1001_1 from by repeat (first|(with_reducible first|exact HI0.out|apply IsS60.alloc|apply IsS60.drewN|apply IsS60.drew|apply IsS60.set_1)|exact HI0.out)) (by (with_reducible repeat first|apply rA|apply rN|apply rD);exact HO_5.out) (by decide)) hk (fun _ h => h.2)) (fun _ h => h.1));have n1_:=Aside0.mk (KeepBut.trans (by repeat (first|(with_reducible first|exact HK.out|apply KeepBut.set_|apply keep_drewN|apply keep_drew|apply keep_alloc)|exact HK.out)) hk (.inl rfl));have n2_:=Aside0.mk (hb);have n3_:=Aside0.mk (hi);clear HO_5;clear HK;clear HB;clear HI0;have HO_5:=n0_;have HK:=n1_;have HB:=n2_;have HI0:=n3_;clear n0_ n1_ n2_ n3_;(try clear hb);(try clear hb2);(try clear hk);(try clear hi)))
      go_ret
      exact ⟨_, by first|rfl|(simp [errW_none, errW_some] <;> rfl)|(simp [*, errW_none, errW_some] <;> rfl), by (with_reducible repeat first|apply rA|apply rN|apply rD); exact HO_5.out, by repeat (first|(with_reducible first|exact HI0.out|apply IsS60.alloc|apply IsS60.drewN|apply IsS60.drew|apply IsS60.set_1)|exact HI0.out), by repeat (first|(with_reducible first|exact HB.out|apply bA|apply bN|apply bD|refine below_set ?_ (IsS60.ge HI0.out))|exact HB.out), by repeat (first|(with_reducible first|exact HK.out|apply KeepBut.set_|apply keep_drewN|apply keep_drew|apply keep_alloc)|exact HK.out)⟩

/-! ### spec_DrawClimbOf: function 13 -/
def spec_DrawClimbOf.f (k : Nat) (l0 : List Int) : Option (List Int × List Int × List Int) := (spec_l20Open.f l0).bind fun bt232 => ((spec_l20Turn.f k bt232.1 bt232.2 14).bind fun bt235 => ((spec_l20Tour.f k bt232.1 bt235.2.2 bt235.1).bind fun bt242 => (some (bt235.1, bt235.2.1, bt242.1))))
theorem spec_DrawClimbOf.mono : ∀ a0 k, LeO (spec_DrawClimbOf.f k a0) (spec_DrawClimbOf.f (k + 1) a0) := by
 intro a0 k
 unfold spec_DrawClimbOf.f
 repeat' first|(with_reducible first|exact spec_l20Tour.mono _ _ _ _|exact spec_l20Turn.mono _ _ _ _|exact LeO.refl _|exact LeO.none _|refine LeO.ite ?_ ?_|refine LeO.bind ?_ (fun _ => ?_))|exact spec_l20Tour.mono _ _ _ _|exact spec_l20Turn.mono _ _ _ _|exact LeO.none _|refine LeO.ite ?_ ?_|refine LeO.bind ?_ (fun _ => ?_)
set_option maxHeartbeats 8000000 in
set_option maxRecDepth 100000 in
theorem spec_DrawClimbOf.calls (k : Nat) (A0 : Option Addr) (c0 : Nat) (l0 : List Int) (r1 : List Int) (r2 : List Int) (r3 : List Int) (w : World) (hr0 : Kd.C (Kd.int .u8) w A0 l0.length l0) (hc0 : l0.length ≤ c0) (h : spec_DrawClimbOf.f k l0 = some (r1, r2, r3)) :
  Calls Try.prog 13 #[.slice A0 l0.length c0] w fun e w' => ∃ v0_ v1_ v2_ : Value, e = .returned (.tuple #[v0_, v1_, v2_]) ∧ Kd.R (Kd.int .i64) 3 w' w.heap.size (fun k_ => some k_ ≠ (v1_ : Value).ownBlock ∧ some k_ ≠ (v2_ : Value).ownBlock) v0_ r1 ∧ Kd.R (Kd.int .i64) 3 w' w.heap.size (fun k_ => some k_ ≠ (v0_ : Value).ownBlock ∧ some k_ ≠ (v2_ : Value).ownBlock) v1_ r2 ∧ Kd.R (Kd.int .i64) 3 w' w.heap.size (fun k_ => some k_ ≠ (v0_ : Value).ownBlock ∧ some k_ ≠ (v1_ : Value).ownBlock) v2_ r3 ∧ Below w.heap.size w w' := by
 have HR0 := Aside0.mk hr0
 have HC0 := Aside0.mk hc0
 clear hr0 hc0
 have HB := Aside0.mk (Below.refl w.heap.size w)
 have H : ((spec_l20Open.f l0).bind fun bt232 => ((spec_l20Turn.f k bt232.1 bt232.2 14).bind fun bt235 => ((spec_l20Tour.f k bt232.1 bt235.2.2 bt235.1).bind fun bt242 => (some (bt235.1, bt235.2.1, bt242.1))))) = some (r1, r2, r3) := h
 clear h
 replace H := Option.bind_eq_some_iff.mp H
 obtain ⟨⟨t232, t233⟩, A20, H⟩ := H
 replace H : ((spec_l20Turn.f k t232 t233 14).bind fun bt235 => ((spec_l20Tour.f k t232 bt235.2.2 bt235.1).bind fun bt242 => (some (bt235.1, bt235.2.1, bt242.1)))) = some (r1, r2, r3) := H
 have A2 := Aside0.mk A20
 clear A20
 replace H := Option.bind_eq_some_iff.mp H
 obtain ⟨⟨t235, t238, t241⟩, A30, H⟩ := H
 replace H : ((spec_l20Tour.f k t232 t241 t235).bind fun bt242 => (some (t235, t238, bt242.1))) = some (r1, r2, r3) := H
 have A3 := Aside0.mk A30
 clear A30
 replace H := Option.bind_eq_some_iff.mp H
 obtain ⟨⟨t242, t245⟩, A40, H⟩ := H
 replace H : (some (t235, t238, t242)) = some (r1, r2, r3) := H
 have A4 := Aside0.mk A40
 clear A40
 simp only [Option.some.injEq, Prod.mk.injEq] at H
 obtain ⟨rfl, rfl, rfl⟩ := H
 go_enter Try.func13, Try.ntmps13
 go_wp2_with (first|((with_reducible refine gate_callee (f:=38) rfl ?_);refine goesL_ (some 9) rfl rfl Try.func38 (by kernel_rfl) rfl #[.slice A0 l0.length c0] rfl (by (try simp only [List.map_toArray,List.map_cons,List.map_nil]);first|done|rfl|(simp only [List.length_drop,List.length_take];rfl)) ?_;(with_reducible refine (spec_l20Open.calls _ _ l0 t232 t233 w _ ?side1 ?side2 ?side3 A2.out).mono ?_);(case side1 => repeat (first|(with_reducible first|exact HB.out|apply bA|apply bN|apply bD)|exact HB.out));(case side2 => exact HR0.out);(case side3 => exact HC0.out);rintro e w5 ⟨g234,rfl,hi,hb,hb2⟩;refine ⟨_,rfl,?_⟩;have n0_:=Aside0.mk (hb);have n1_:=Aside0.mk (hi);clear HB;have HB:=n0_;have HI234:=n1_;clear n0_ n1_;(try clear hb);(try clear hb2);(try clear hk);(try clear hi))|((with_reducible refine gate_callee (f:=39) rfl ?_);refine goesL_ (some 12) rfl rfl Try.func39 (by kernel_rfl) rfl #[.pointer (some ⟨g234,0,none⟩),.int .i64 14] rfl (by (try simp only [List.map_toArray,List.map_cons,List.map_nil]);first|done|rfl|(simp only [List.length_drop,List.length_take];rfl)) ?_;(with_reducible refine (spec_l20Turn.calls k g234 t232 t233 14 t235 t238 t241 w _ ?side1 ?side2 A3.out).mono ?_);(case side1 => repeat (first|(with_reducible first|exact HI234.out|apply IsS60.alloc|apply IsS60.drewN|apply IsS60.drew|apply IsS60.set_1)|exact HI234.out));(case side2 => repeat (first|(with_reducible first|exact HB.out|apply bA|apply bN|apply bD|refine below_set ?_ (IsS60.ge HI234.out))|exact HB.out));rintro e w6 ⟨v236,v239,rfl,ho0,ho1,hi,hb,hk⟩;refine ⟨_,rfl,?_⟩;have n0_:=Aside0.mk (Kd.R_lower ho0 (bS (by repeat (first|(with_reducible first|exact HB.out|apply bA|apply bN|apply bD|refine below_set ?_ (IsS60.ge HI234.out))|exact HB.out))));have n1_:=Aside0.mk (Kd.R_lower ho1 (bS (by repeat (first|(with_reducible first|exact HB.out|apply bA|apply bN|apply bD|refine below_set ?_ (IsS60.ge HI234.out))|exact HB.out))));have n2_:=Aside0.mk (hb);have n3_:=Aside0.mk (hi);clear HB;clear HI234;have HO237:=n0_;have HO240:=n1_;have HB:=n2_;have HI234:=n3_;clear n0_ n1_ n2_ n3_;(try clear hb);(try clear hb2);(try clear hk);(try clear hi);(try clear ho0);(try clear ho1);obtain ⟨Ao7,co7,eo7⟩:=kS HO237.out;subst eo7)|((with_reducible refine gate_callee (f:=40) rfl ?_);refine goesL_ (some 19) rfl rfl Try.func40 (by kernel_rfl) rfl #[.pointer (some ⟨g234,0,none⟩),.slice Ao7 t235.length co7] rfl (by (try simp only [List.map_toArray,List.map_cons,List.map_nil]);first|done|rfl|(simp only [List.length_drop,List.length_take];rfl)) ?_;(with_reducible refine (spec_l20Tour.calls k g234 t232 t241 _ _ t235 t242 t245 w _ ?side1 ?side2 ?side3 ?side4 ?side5 A4.out).mono ?_);(case side1 => repeat (first|(with_reducible first|exact HI234.out|apply IsS60.alloc|apply IsS60.drewN|apply IsS60.drew|apply IsS60.set_1)|exact HI234.out));(case side2 => repeat (first|(with_reducible first|exact HB.out|apply bA|apply bN|apply bD|refine below_set ?_ (IsS60.ge HI234.out))|exact HB.out));(case side3 => repeat (first|exact (kR HO237.out).2.2|(with_reducible first|refine cA ?_ _|refine cN ?_ _|refine cD ?_)));(case side4 => exact (kR HO237.out).2.1);(case side5 => exact far_slice (IsS60.own_ne HI234.out HO237.out (by decide)));rintro e w8 ⟨v243,rfl,ho0,hi,hb,hk⟩;refine ⟨_,rfl,?_⟩;have n0_:=Aside0.mk (Kd.R_mono (Kd.R_told (Kd.R_oldK (IsS60.apart (show IsS60 w _ g234 t232 t241 from by repeat (first|(with_reducible first|exact HI234.out|apply IsS60.alloc|apply IsS60.drewN|apply IsS60.drew|apply IsS60.set_1)|exact HI234.out)) (by (with_reducible repeat first|apply rA|apply rN|apply rD);exact HO237.out) (by decide)) hk) (Kd.R_base ho0)) (fun _ h_ => h_.1));have n1_:=Aside0.mk (Kd.R_mono (Kd.R_told (Kd.R_oldK (IsS60.apart (show IsS60 w _ g234 t232 t241 from by repeat (first|(with_reducible first|exact HI234.out|apply IsS60.alloc|apply IsS60.drewN|apply IsS60.drew|apply IsS60.set_1)|exact HI234.out)) (by (with_reducible repeat first|apply rA|apply rN|apply rD);exact HO240.out) (by decide)) hk) (Kd.R_base ho0)) (fun _ h_ => h_.1));have n2_:=Aside0.mk (Kd.R_lower (kN (kN ho0 (Kd.R_lt (by (with_reducible repeat first|apply rA|apply rN|apply rD);exact HO237.out))) (Kd.R_lt (by (with_reducible repeat first|apply rA|apply rN|apply rD);exact HO240.out))) (bS (by repeat (first|(with_reducible first|exact HB.out|apply bA|apply bN|apply bD|refine below_set ?_ (IsS60.ge HI234.out))|exact HB.out))));have n3_:=Aside0.mk (hb);have n4_:=Aside0.mk (hi);clear HO237;clear HO240;clear HB;clear HI234;have HO237:=n0_;have HO240:=n1_;have HO244:=n2_;have HB:=n3_;have HI234:=n4_;clear n0_ n1_ n2_ n3_ n4_;(try clear hb);(try clear hb2);(try clear hk);(try clear hi);(try clear ho0)))
 go_ret3
 exact ⟨_, _, _, by first|rfl|(simp [errW_none, errW_some] <;> rfl)|(simp [*, errW_none, errW_some] <;> rfl), by (with_reducible repeat first|apply rA|apply rN|apply rD); exact HO237.out, by (with_reducible repeat first|apply rA|apply rN|apply rD); exact HO240.out, by (with_reducible repeat first|apply rA|apply rN|apply rD); exact Kd.R_mono HO244.out (fun _ hk => ⟨hk.1.2, hk.2⟩), by repeat (first|(with_reducible first|exact HB.out|apply bA|apply bN|apply bD|refine below_set ?_ (IsS60.ge HI234.out))|exact HB.out)⟩

end Go.Proofs.Ytcjjiajcjooccaa.PFnClimbRound
