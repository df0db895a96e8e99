-- Written by a program of this session (the kit's print, changed).
import Derived.Test.YtkofidpgbmajdaaSq
import Derived.Test.YtkofidpgbmajdaaPFnBestTourx0
import Derived.Test.YtkofidpgbmajdaaPFnBestTourx1
namespace Go.Proofs.Ytkofidpgbmajdaa.PFnBestTour
open Go.RowKit Go.Proofs.YtkofidpgbmajdaaW.PrintWords Go.Proofs.YtkofidpgbmajdaaW.PrintLast Go.Proofs.YtkofidpgbmajdaaW.PrintMore
attribute [local go_sem] max2_int min2_int max_two min_two max_three min_three max_four min_four   -- for this text's walks alone
set_option linter.unusedVariables false
set_option linter.unusedSimpArgs false

/-! ### spec_l6Most: function 25 -/
mutual
def spec_l6Most.l0 : Nat → List Int → List Int → Int → List Int → Int → Option (List Int)
 | 0, _, _, _, _, _ => none
 | k + 1, x0, x1, x2, x7, x8 => if x8 < x2 then ((some (([] : List Int) : List Int)).bind fun y116 => (if y116.length + x7.length < 17592186044416 then (spec_l6Most.l1 k x0 x1 x2 x7 x8 (y116 ++ x7) 0) else (none))) else (some x7)
def spec_l6Most.l1 : Nat → List Int → List Int → Int → List Int → Int → List Int → Int → Option (List Int)
 | 0, _, _, _, _, _, _, _ => none
 | k + 1, x0, x1, x2, x7, x8, x9, x10 => if x10 < (x0.length : Int) then (spec_l6Most.l2 k x0 x1 x2 x7 x8 x9 x10 0) else (spec_l6Most.l0 k x0 x1 x2 x9 (wrap64 (x8 + 1)))
def spec_l6Most.l2 : Nat → List Int → List Int → Int → List Int → Int → List Int → Int → Int → Option (List Int)
 | 0, _, _, _, _, _, _, _, _ => none
 | k + 1, x0, x1, x2, x7, x8, x9, x10, x11 => if x11 < (x0.length : Int) then (if 0 ≤ x10 then (if x10 < (x0.length : Int) then (if 0 ≤ x11 then (if (Int.tmod (shr .i64 (rd x0 x10) x11) 2) = 1 then (if x10 < (x9.length : Int) then (if x10 < (x1.length : Int) then (if x11 < (x1.length : Int) then ((spec_l6Rise.f (rd x1 x10) (rd x1 x11)).bind fun t126 => (if x11 < (x7.length : Int) then (spec_l6Most.l2 k x0 x1 x2 x7 x8 (x9.set (x10 : Int).toNat (mx (rd x9 x10) (wrap64 (t126 + (rd x7 x11))))) x10 (wrap64 (x11 + 1))) else (none))) else (none)) else (none)) else (none)) else (spec_l6Most.l2 k x0 x1 x2 x7 x8 x9 x10 (wrap64 (x11 + 1)))) else (none)) else (none)) else (none)) else (spec_l6Most.l1 k x0 x1 x2 x7 x8 x9 (wrap64 (x10 + 1)))
end
def spec_l6Most.f (k : Nat) (l0 : List Int) (l1 : List Int) (a2 : Int) : Option (List Int) := if 0 ≤ (l0.length : Int) then (if ((l0.length : Int) : Int).toNat ≤ 35184372088832 then (spec_l6Most.l0 k l0 l1 a2 (List.replicate ((l0.length : Int) : Int).toNat 0) 0) else (none)) else (none)
theorem spec_l6Most.mono_l : ∀ k, (∀ y0 y1 y2 y3 y4, LeO (spec_l6Most.l0 k y0 y1 y2 y3 y4) (spec_l6Most.l0 (k + 1) y0 y1 y2 y3 y4)) ∧ (∀ y0 y1 y2 y3 y4 y5 y6, LeO (spec_l6Most.l1 k y0 y1 y2 y3 y4 y5 y6) (spec_l6Most.l1 (k + 1) y0 y1 y2 y3 y4 y5 y6)) ∧ (∀ y0 y1 y2 y3 y4 y5 y6 y7, LeO (spec_l6Most.l2 k y0 y1 y2 y3 y4 y5 y6 y7) (spec_l6Most.l2 (k + 1) y0 y1 y2 y3 y4 y5 y6 y7))
 | 0 => ⟨fun _ _ _ _ _ r h => by simp [spec_l6Most.l0] at h, fun _ _ _ _ _ _ _ r h => by simp [spec_l6Most.l1] at h, fun _ _ _ _ _ _ _ _ r h => by simp [spec_l6Most.l2] at h⟩
 | k + 1 => by
  obtain ⟨ih0, ih1, ih2⟩ := spec_l6Most.mono_l k
  refine ⟨?_, ?_, ?_⟩
  ·intro y0 y1 y2 y3 y4
   unfold spec_l6Most.l0
   repeat' first|(with_reducible first|exact ih0 _ _ _ _ _|exact ih1 _ _ _ _ _ _ _|exact ih2 _ _ _ _ _ _ _ _|exact LeO.refl _|exact LeO.none _|refine LeO.ite ?_ ?_|refine LeO.bind ?_ (fun _ => ?_))|exact ih0 _ _ _ _ _|exact ih1 _ _ _ _ _ _ _|exact ih2 _ _ _ _ _ _ _ _|exact LeO.none _|refine LeO.ite ?_ ?_|refine LeO.bind ?_ (fun _ => ?_)
  ·intro y0 y1 y2 y3 y4 y5 y6
   unfold spec_l6Most.l1
   repeat' first|(with_reducible first|exact ih0 _ _ _ _ _|exact ih1 _ _ _ _ _ _ _|exact ih2 _ _ _ _ _ _ _ _|exact LeO.refl _|exact LeO.none _|refine LeO.ite ?_ ?_|refine LeO.bind ?_ (fun _ => ?_))|exact ih0 _ _ _ _ _|exact ih1 _ _ _ _ _ _ _|exact ih2 _ _ _ _ _ _ _ _|exact LeO.none _|refine LeO.ite ?_ ?_|refine LeO.bind ?_ (fun _ => ?_)
  ·intro y0 y1 y2 y3 y4 y5 y6 y7
   unfold spec_l6Most.l2
   repeat' first|(with_reducible first|exact ih0 _ _ _ _ _|exact ih1 _ _ _ _ _ _ _|exact ih2 _ _ _ _ _ _ _ _|exact LeO.refl _|exact LeO.none _|refine LeO.ite ?_ ?_|refine LeO.bind ?_ (fun _ => ?_))|exact ih0 _ _ _ _ _|exact ih1 _ _ _ _ _ _ _|exact ih2 _ _ _ _ _ _ _ _|exact LeO.none _|refine LeO.ite ?_ ?_|refine LeO.bind ?_ (fun _ => ?_)
theorem spec_l6Most.mono : ∀ a0 a1 a2 k, LeO (spec_l6Most.f k a0 a1 a2) (spec_l6Most.f (k + 1) a0 a1 a2) := by
 intro a0 a1 a2 k
 obtain ⟨ih0, ih1, ih2⟩ := spec_l6Most.mono_l k
 unfold spec_l6Most.f
 repeat' first|(with_reducible first|exact ih0 _ _ _ _ _|exact ih1 _ _ _ _ _ _ _|exact ih2 _ _ _ _ _ _ _ _|exact LeO.refl _|exact LeO.none _|refine LeO.ite ?_ ?_|refine LeO.bind ?_ (fun _ => ?_))|exact ih0 _ _ _ _ _|exact ih1 _ _ _ _ _ _ _|exact ih2 _ _ _ _ _ _ _ _|exact LeO.none _|refine LeO.ite ?_ ?_|refine LeO.bind ?_ (fun _ => ?_)
def spec_l6Most.T13 : Bool × List (List Nat × List Nat) := (true, [([], []), ([], []), ([], []), ([], []), ([2, 3], [2, 3]), ([4], [4]), ([], []), ([], []), ([6, 7], [6, 7]), ([8], [8]), ([], []), ([], []), ([10, 11], [10, 11]), ([12], [12]), ([9, 13], [9, 13]), ([], []), ([], []), ([15, 16], [15, 16]), ([17], [17]), ([14, 18], [14, 18]), ([5, 19], [5, 19]), ([0, 1, 0, 1, 2, 3, 4, 5, 6, 7, 8, 9, 10, 11, 12, 13, 14, 15, 16, 17, 18, 19, 20], [0, 1]), ([21, 20, 14, 0, 1, 2, 3, 4, 5, 6, 7, 8, 9, 10, 11, 12, 13, 14, 15, 16, 17, 18, 19, 20], [20, 21])])
def spec_l6Most.B13 : List Nat := [0, 0, 0, 0, 12, 28, 0, 0, 192, 448, 0, 0, 3072, 7168, 16320, 0, 0, 98304, 229376, 524224, 1048572, 2097151, 4194303]
theorem spec_l6Most.tab13 : rtab .any (opsOf Try.f25 13) = spec_l6Most.T13 := by kernel_rfl
theorem spec_l6Most.bits13 : waitsOk spec_l6Most.T13.2 spec_l6Most.B13 = true := by kernel_rfl
set_option maxHeartbeats 8000000 in
set_option maxRecDepth 100000 in
theorem spec_l6Most.calls (k : Nat) (A0 : Option Addr) (c0 : Nat) (l0 : List Int) (A1 : Option Addr) (c1 : Nat) (l1 : List Int) (a2 : Int) (r : List Int) (w : World) (hr0 : Kd.C (Kd.int .i64) w A0 l0.length l0) (hc0 : l0.length ≤ c0) (hr1 : Kd.C (Kd.int .i64) w A1 l1.length l1) (hc1 : l1.length ≤ c1) (h : spec_l6Most.f k l0 l1 a2 = some r) :
  Calls Try.prog 25 #[.slice A0 l0.length c0, .slice A1 l1.length c1, .int .i64 a2] w fun e w' => ∃ v0_ : Value, e = .returned (v0_) ∧ Kd.R (Kd.int .i64) 3 w' w.heap.size (fun _ => True) v0_ r ∧ Below w.heap.size w w' := by
 have HR0 := Aside0.mk hr0
 have HC0 := Aside0.mk hc0
 clear hr0 hc0
 have HR1 := Aside0.mk hr1
 have HC1 := Aside0.mk hc1
 clear hr1 hc1
 have HB := Aside0.mk (Below.refl w.heap.size w)
 have H : (if 0 ≤ (l0.length : Int) then (if ((l0.length : Int) : Int).toNat ≤ 35184372088832 then (spec_l6Most.l0 k l0 l1 a2 (List.replicate ((l0.length : Int) : Int).toNat 0) 0) else (none)) else (none)) = some r := h
 clear h
 by_cases c4 : 0 ≤ (l0.length : Int)
 ·rw [if_pos c4] at H
  have LKc4 := Aside0.mk c4
  have c4b0 := eq_true c4
  have c4b1 : decide (0 ≤ (l0.length : Int)) = true := decide_eq_true c4
  clear c4
  by_cases c5 : ((l0.length : Int) : Int).toNat ≤ 35184372088832
  ·rw [if_pos c5] at H
   have c5b0 := eq_true c5
   have c5b1 : decide (((l0.length : Int) : Int).toNat ≤ 35184372088832) = true := decide_eq_true c5
   clear c5
   obtain ⟨y113, hy113⟩ : ∃ y_ : List Int, y_ = (List.replicate ((l0.length : Int) : Int).toNat 0) := ⟨_, rfl⟩
   replace H : (spec_l6Most.l0 k l0 l1 a2 y113 0) = some r := by first|(rw [hy113]; with_reducible exact H)|(have H2_ := (Option.bind_some _ _).symm.trans H; rw [hy113]; with_reducible exact H2_)|(have H2_ := (Option.bind_some _ _).symm.trans H; with_reducible exact H2_)|with_reducible exact H|(rw [hy113]; exact H)|exact H
   have Ny113 := Aside0.mk hy113
   clear hy113
   have H' := Aside0.mk H
   clear H
   go_enter Try.func25, Try.ntmps25
   go_wp2_with (first|((with_reducible refine gate_dst (N:=14) rfl ?_);refine Kd.R_make (Kd.int .i64) _ 3 rfl (N:=14) rfl 22 _ _ rfl (l0.length : Int) rfl rfl Try.underlying22 (.int .i64 0) 8 info3 rfl (by decide) (by omega) 0 (ok:=fun _ => True) (okp:=fun _ => True) rfl (fun _ hk => hk) trivial (oD (by first|(with_reducible assumption)|assumption)) (Nat.le_trans (Nat.mul_le_mul_right _ (oD (by first|(with_reducible assumption)|assumption) : (l0.length : Int).toNat ≤ 35184372088832)) (by omega)) (Below.refl _ _) (Nat.le_refl _) ?_;intro v114 w6 ho7 hb hg_ hnew_;clear hg_ hnew_;(first|rw [← Ny113.out] at ho7|(simp only [Int.reduceToNat] at ho7;rw [← Ny113.out] at ho7));have n0_:=Aside0.mk (Kd.R_lower ho7 (bS (by repeat (first|(with_reducible first|exact HB.out|apply bA|apply bN|apply bD)|exact HB.out))));have n1_:=Aside0.mk (bT (by repeat (first|(with_reducible first|exact HB.out|apply bA|apply bN|apply bD)|exact HB.out)) hb);clear HB;have HO115:=n0_;have HB:=n1_;clear n0_ n1_;clear hb ho7))
   go_loopg [7, 8] k (fun kq v7 v8 w' => ∃ (x7_1 : List Int) (x8_1 : Int), v8 = .int .i64 x8_1 ∧ Aside0 (spec_l6Most.l0 kq l0 l1 a2 x7_1 x8_1 = some r) ∧ Aside0 (kq ≤ k) ∧ Aside0 (Kd.R (Kd.int .i64) 3 w' w.heap.size (fun _ => True) v7 x7_1) ∧ Aside0 (Below w.heap.size w w'))
   case atStart => exact ⟨(y113), (0), (by first|rfl|(simp; done)|(simp [*]; done)), H', ⟨Nat.le_refl _⟩, ⟨by (with_reducible repeat first|apply rA|apply rN|apply rD); exact HO115.out⟩, ⟨by repeat (first|(with_reducible first|exact HB.out|apply bA|apply bN|apply bD)|exact HB.out)⟩⟩
   case round =>
    clear H'
    try clear c1
    try clear c2
    try clear p2
    try clear c4
    try clear c4b0
    try clear c4b1
    try clear c5
    try clear c5b0
    try clear c5b1
    obtain ⟨x7_1, x8_1, rfl, HA, HK1, HO_7, HB⟩ := hrel
    cases gk with
    | zero => exact absurd HA.out (by simp [spec_l6Most.l0])
    | succ k1 =>
     have H := HA.out
     clear HA
     simp only [spec_l6Most.l0] at H
     by_cases c8 : x8_1 < a2
     ·rw [if_pos c8] at H
      have c8b0 : decide (x8_1 < a2) = true := decide_eq_true c8
      clear c8
      obtain ⟨y116, hy116⟩ : ∃ y_ : List Int, y_ = (([] : List Int)) := ⟨_, rfl⟩
      replace H : (if y116.length + x7_1.length < 17592186044416 then (spec_l6Most.l1 k1 l0 l1 a2 x7_1 x8_1 (y116 ++ x7_1) 0) else (none)) = some r := by first|(rw [hy116]; with_reducible exact H)|(have H2_ := (Option.bind_some _ _).symm.trans H; rw [hy116]; with_reducible exact H2_)|(have H2_ := (Option.bind_some _ _).symm.trans H; with_reducible exact H2_)|with_reducible exact H|(rw [hy116]; exact H)|exact H
      have Ny116 := Aside0.mk hy116
      clear hy116
      by_cases c9 : y116.length + x7_1.length < 17592186044416
      ·rw [if_pos c9] at H
       have LMc9 := Aside0.mk c9
       clear c9
       obtain ⟨y119, hy119⟩ : ∃ y_ : List Int, y_ = (y116 ++ x7_1) := ⟨_, rfl⟩
       replace H : (spec_l6Most.l1 k1 l0 l1 a2 x7_1 x8_1 y119 0) = some r := by first|(rw [hy119]; with_reducible exact H)|(have H2_ := (Option.bind_some _ _).symm.trans H; rw [hy119]; with_reducible exact H2_)|(have H2_ := (Option.bind_some _ _).symm.trans H; with_reducible exact H2_)|with_reducible exact H|(rw [hy119]; exact H)|exact H
       have Ny119 := Aside0.mk hy119
       clear hy119
       have H' := Aside0.mk H
       clear H
       go_wp2_with (first|((with_reducible refine gate_dst (N:=20) rfl ?_);refine Kd.R_lit (Kd.int .i64) _ 3 ?hg (N:=20) ?hd (xs:=([] : List Int)) (inner:=[]) (ok:=fun _ => True) (okp:=fun _ => True) ?hr ?hp (fun _ hk => hk) trivial (Below.refl _ _) (Nat.le_refl _) (by simp) ?_;(case hd => rfl);(case hg => rfl);(case hr => first|(go_simp;done)|(go_simp;rfl));(case hp => exact (Reps.none _ _));intro v117 w10 ho11 hb hg_ hnew_;clear hg_ hnew_;(first|rw [← Ny116.out] at ho11|(simp only [Int.reduceToNat] at ho11;rw [← Ny116.out] at ho11));have n0_:=Aside0.mk (kE (by (with_reducible repeat first|apply rA|apply rN|apply rD);exact HO_7.out) (Kd.R_base ho11) hb);have n1_:=Aside0.mk (Kd.R_lower (kN ho11 (Kd.R_lt (by (with_reducible repeat first|apply rA|apply rN|apply rD);exact HO_7.out))) (bS (by repeat (first|(with_reducible first|exact HB.out|apply bA|apply bN|apply bD)|exact HB.out))));have n2_:=Aside0.mk (bT (by repeat (first|(with_reducible first|exact HB.out|apply bA|apply bN|apply bD)|exact HB.out)) hb);clear HO_7;clear HB;have HO_7:=n0_;have HO118:=n1_;have HB:=n2_;clear n0_ n1_ n2_;clear hb ho11;obtain ⟨Ao13,co13,eo13⟩:=kS HO_7.out;subst eo13)|((with_reducible refine gate_builtin (b:=.append) (xs:=#[.tmp 20,.tmp 21]) rfl ?_);at_builtin;refine Kd.R_append_rows (Kd.int .i64) (w0:=w) w.heap.size rfl (.tmp 20) (.tmp 21) 22 3 (.int .i64 0) 8 rfl Try.underlying22 info3 rfl (by decide) (by omega) v117 y116 x7_1 _ _ _ (fun k_ => some k_ ≠ (.slice Ao13 x7_1.length co13 : Value).ownBlock) (fun _ => False) rfl rfl ?aO ?aR (fun _ _ h => h) (fun _ h => h.elim) ?aF ?aB ?aS ?aL ?_;(case aR => repeat (first|exact (kR HO_7.out).2.2|(with_reducible first|refine cA ?_ _|refine cN ?_ _|refine cD ?_)));(case aB => exact (by repeat (first|(with_reducible first|exact HB.out|apply bA|apply bN|apply bD)|exact HB.out)));(case aF => exact (fun k_ hk => Kd.fresh' (Kd.R_lt (by (with_reducible repeat first|apply rA|apply rN|apply rD);exact HO_7.out)) k_ hk));(case aO => exact (by (with_reducible repeat first|apply rA|apply rN|apply rD);exact Kd.R_mono HO118.out (fun _ hk => hk.2)));(case aS => exact (bS (by repeat (first|(with_reducible first|exact HB.out|apply bA|apply bN|apply bD)|exact HB.out))));(case aL => have:=LMc9.out;omega);intro v120 w12 ho hb hg hat;rw [← Ny119.out] at ho;have n0_:=Aside0.mk (Kd.R_after (ok:=(fun _ => True)) (by (with_reducible repeat first|apply rA|apply rN|apply rD);first|exact HO_7.out|exact Kd.R_mono HO_7.out (fun _ hk => by (obtain ⟨hk1_,hk2_⟩:=hk;(try obtain ⟨ha_,hk1_⟩:=hk1_);(try obtain ⟨hb_,hk1_⟩:=hk1_);(try obtain ⟨hc_,hk1_⟩:=hk1_);(repeat' apply And.intro) <;> assumption))) hg hat);have n1_:=Aside0.mk (hb);have n2_:=Aside0.mk (ho);clear HO_7;clear HB;clear HO118;have HO_7:=n0_;have HB:=n1_;have HO121:=n2_;clear n0_ n1_ n2_;clear ho hb hg hat))
       go_loopg [10] k1 (fun kq v10 w' => ∃ (x9_2 : List Int) (x10_2 : Int), v10 = .int .i64 x10_2 ∧ Aside0 (spec_l6Most.l1 kq l0 l1 a2 x7_1 x8_1 x9_2 x10_2 = some r) ∧ Aside0 (kq ≤ k1) ∧ Aside0 (Kd.R (Kd.int .i64) 3 w' w.heap.size (fun k_ => some k_ ≠ (v120 : Value).ownBlock) (.slice Ao13 x7_1.length co13) x7_1) ∧ Aside0 (Kd.R (Kd.int .i64) 3 w' w.heap.size (fun k_ => some k_ ≠ ((.slice Ao13 x7_1.length co13) : Value).ownBlock) v120 x9_2) ∧ Aside0 (Below w.heap.size w w'))
       case atStart => exact ⟨(y119), (0), (by first|rfl|(simp; done)|(simp [*]; done)), H', ⟨Nat.le_refl _⟩, ⟨by (with_reducible repeat first|apply rA|apply rN|apply rD); exact Kd.R_mono HO_7.out (fun _ hk => hk.2)⟩, ⟨by (with_reducible repeat first|apply rA|apply rN|apply rD); exact HO121.out⟩, ⟨by repeat (first|(with_reducible first|exact HB.out|apply bA|apply bN|apply bD)|exact HB.out)⟩⟩
       case round =>
        clear H'
        try clear c1
        try clear c2
        try clear p2
        try clear c4
        try clear c4b0
        try clear c4b1
        try clear c5
        try clear c5b0
        try clear c5b1
        try clear c8
        try clear c8b0
        try clear c9
        try clear p2
        obtain ⟨x9_2, x10_2, rfl, HA, HK2, HO_7, HO_9, HB⟩ := hrel
        cases gk with
        | zero => exact absurd HA.out (by simp [spec_l6Most.l1])
        | succ k2 =>
         have H := HA.out
         clear HA
         simp only [spec_l6Most.l1] at H
         by_cases c14 : x10_2 < (l0.length : Int)
         ·rw [if_pos c14] at H
          have c14b0 : decide (x10_2 < (l0.length : Int)) = true := decide_eq_true c14
          clear c14
          have H' := Aside0.mk H
          clear H
          go_wp2
          go_loopg [11] k2 (fun kq v11 w' => ∃ (x9_3 : List Int) (x11_3 : Int), v11 = .int .i64 x11_3 ∧ Aside0 (spec_l6Most.l2 kq l0 l1 a2 x7_1 x8_1 x9_3 x10_2 x11_3 = some r) ∧ Aside0 (kq ≤ k2) ∧ Aside0 (Kd.R (Kd.int .i64) 3 w' w.heap.size (fun k_ => some k_ ≠ (v120 : Value).ownBlock) (.slice Ao13 x7_1.length co13) x7_1) ∧ Aside0 (Kd.R (Kd.int .i64) 3 w' w.heap.size (fun k_ => some k_ ≠ ((.slice Ao13 x7_1.length co13) : Value).ownBlock) v120 x9_3) ∧ Aside0 (Below w.heap.size w w'))
          case atStart => exact ⟨(x9_2), (0), (by first|rfl|(simp; done)|(simp [*]; done)), H', ⟨Nat.le_refl _⟩, ⟨by (with_reducible repeat first|apply rA|apply rN|apply rD); exact HO_7.out⟩, ⟨by (with_reducible repeat first|apply rA|apply rN|apply rD); exact HO_9.out⟩, ⟨by repeat (first|(with_reducible first|exact HB.out|apply bA|apply bN|apply bD)|exact HB.out)⟩⟩
          case round =>
           clear H'
           try clear c1
           try clear c2
           try clear p2
           try clear c4
           try clear c4b0
           try clear c4b1
           try clear c5
           try clear c5b0
           try clear c5b1
           try clear c8
           try clear c8b0
           try clear c9
           try clear c14
           try clear c14b0
           try clear p2
           obtain ⟨x9_3, x11_3, rfl, HA, HK3, HO_7, HO_9, HB⟩ := hrel
           cases gk with
           | zero => exact absurd HA.out (by simp [spec_l6Most.l2])
           | succ k3 =>
            have H := HA.out
            clear HA
            simp only [spec_l6Most.l2] at H
            by_cases c15 : x11_3 < (l0.length : Int)
            ·rw [if_pos c15] at H
             have c15b0 : decide (x11_3 < (l0.length : Int)) = true := decide_eq_true c15
             clear c15
             by_cases c16 : 0 ≤ x10_2
             ·rw [if_pos c16] at H
              have c16b0 : decide (0 ≤ x10_2) = true := decide_eq_true c16
              clear c16
              by_cases c17 : x10_2 < (l0.length : Int)
              ·rw [if_pos c17] at H
               have c17b0 : decide (x10_2 < (l0.length : Int)) = true := decide_eq_true c17
               clear c17
               by_cases c18 : 0 ≤ x11_3
               ·rw [if_pos c18] at H
                have c18b0 := eq_true c18
                have c18b1 : decide (0 ≤ x11_3) = true := decide_eq_true c18
                clear c18
                obtain ⟨ji19, hji19⟩ : ∃ j_ : Int, (shr .i64 (rd l0 x10_2) x11_3) = j_ := ⟨_, rfl⟩
                replace H : (if (Int.tmod (ji19) 2) = 1 then (if x10_2 < (x9_3.length : Int) then (if x10_2 < (l1.length : Int) then (if x11_3 < (l1.length : Int) then ((spec_l6Rise.f (rd l1 x10_2) (rd l1 x11_3)).bind fun t126 => (if x11_3 < (x7_1.length : Int) then (spec_l6Most.l2 k3 l0 l1 a2 x7_1 x8_1 (x9_3.set (x10_2 : Int).toNat (mx (rd x9_3 x10_2) (wrap64 (t126 + (rd x7_1 x11_3))))) x10_2 (wrap64 (x11_3 + 1))) else (none))) else (none)) else (none)) else (none)) else (spec_l6Most.l2 k3 l0 l1 a2 x7_1 x8_1 x9_3 x10_2 (wrap64 (x11_3 + 1)))) = some r := by first|(rw [hji19] at H; exact H)|(simp only [hji19] at H ⊢; exact H)
                have hji19_ : ((rd l0 x10_2) / 2 ^ min x11_3.toNat 64) = ji19 := hji19
                have hji19z : x11_3 ≤ 64 → ((rd l0 x10_2) / 2 ^ x11_3.toNat) = ji19 := shr_small hji19
                by_cases c20 : (Int.tmod (ji19) 2) = 1
                ·rw [if_pos c20] at H
                 have c20b0 : ((Int.tmod (ji19) 2) == 1) = true := beq_iff_eq.mpr c20
                 have c20b1 : ((Int.tmod (ji19) 2) != 1) = false := bne_eq_false_iff_eq.mpr c20
                 clear c20
                 by_cases c21 : x10_2 < (x9_3.length : Int)
                 ·rw [if_pos c21] at H
                  have c21b0 : decide (x10_2 < (x9_3.length : Int)) = true := decide_eq_true c21
                  clear c21
                  by_cases c22 : x10_2 < (l1.length : Int)
                  ·rw [if_pos c22] at H
                   have c22b0 : decide (x10_2 < (l1.length : Int)) = true := decide_eq_true c22
                   clear c22
                   by_cases c23 : x11_3 < (l1.length : Int)
                   ·rw [if_pos c23] at H
                    have c23b0 : decide (x11_3 < (l1.length : Int)) = true := decide_eq_true c23
                    clear c23
                    replace H := Option.bind_eq_some_iff.mp H
                    obtain ⟨t126, A240, H⟩ := H
                    replace H : (if x11_3 < (x7_1.length : Int) then (spec_l6Most.l2 k3 l0 l1 a2 x7_1 x8_1 (x9_3.set (x10_2 : Int).toNat (mx (rd x9_3 x10_2) (wrap64 (t126 + (rd x7_1 x11_3))))) x10_2 (wrap64 (x11_3 + 1))) else (none)) = some r := H
                    have A24 := Aside0.mk A240
                    clear A240
                    by_cases c25 : x11_3 < (x7_1.length : Int)
                    ·rw [if_pos c25] at H
                     have c25b0 : decide (x11_3 < (x7_1.length : Int)) = true := decide_eq_true c25
                     clear c25
                     obtain ⟨ji26, hji26⟩ : ∃ j_ : Int, (mx (rd x9_3 x10_2) (wrap64 (t126 + (rd x7_1 x11_3)))) = j_ := ⟨_, rfl⟩
                     replace H : (spec_l6Most.l2 k3 l0 l1 a2 x7_1 x8_1 (x9_3.set (x10_2 : Int).toNat (ji26)) x10_2 (wrap64 (x11_3 + 1))) = some r := by first|(rw [hji26] at H; exact H)|(simp only [hji26] at H ⊢; exact H)
                     (try rw [hji26] at A24)
                     have hji26_ : (if (rd x9_3 x10_2) < (wrap64 (t126 + (rd x7_1 x11_3))) then (wrap64 (t126 + (rd x7_1 x11_3))) else (rd x9_3 x10_2)) = ji26 := hji26
                     obtain ⟨y128, hy128⟩ : ∃ y_ : List Int, y_ = (x9_3.set (x10_2 : Int).toNat (ji26)) := ⟨_, rfl⟩
                     replace H : (spec_l6Most.l2 k3 l0 l1 a2 x7_1 x8_1 y128 x10_2 (wrap64 (x11_3 + 1))) = some r := by first|(rw [hy128]; with_reducible exact H)|(have H2_ := (Option.bind_some _ _).symm.trans H; rw [hy128]; with_reducible exact H2_)|(have H2_ := (Option.bind_some _ _).symm.trans H; with_reducible exact H2_)|with_reducible exact H|(rw [hy128]; exact H)|exact H
                     have Ny128 := Aside0.mk hy128
                     clear hy128
                     have H' := Aside0.mk H
                     clear H
                     have p122 : 0 ≤ (x10_2 : Int) := oD (by first|(with_reducible assumption)|assumption)
                     have q122 : x10_2 < (l0.length : Int) := oD (by first|(with_reducible assumption)|assumption)
                     obtain ⟨ad122, e122, hx122_0⟩ := aI HR0.out x10_2 p122 q122
                     cases e122
                     replace hx122_0 := (HB.out.cell (World.block_lt_of_cell? w _ hx122_0)).trans hx122_0
                     replace p122 := eq_true p122
                     replace q122 := eq_true q122
                     try go_wp2
                     have n0_ := Aside0.mk (Kd.R_drew HO_7.out)
                     have n1_ := Aside0.mk (Kd.R_drew HO_9.out)
                     have n2_ := Aside0.mk (below_drew1 HB.out)
                     clear HO_7
                     clear HO_9
                     clear HB
                     have HO_7 := n0_
                     have HO_9 := n1_
                     have HB := n2_
                     clear n0_ n1_ n2_
                     obtain ⟨Ao29, co29, eo29⟩ := kS HO_9.out
                     (first|subst eo29|(injection eo29 with f1_ f2_ f3_; have f4_ := f1_.symm; have f5_ := f3_.symm; clear f1_ f2_ f3_; subst f4_; subst f5_))
                     have p123 : 0 ≤ (x10_2 : Int) := oD (by first|(with_reducible assumption)|assumption)
                     have q123 : x10_2 < (x9_3.length : Int) := oD (by first|(with_reducible assumption)|assumption)
                     obtain ⟨ad123, e123, hx123_0⟩ := aI (kR HO_9.out).2.2 x10_2 p123 q123
                     cases e123
                     replace p123 := eq_true p123
                     replace q123 := eq_true q123
                     have p124 : 0 ≤ (x10_2 : Int) := oD (by first|(with_reducible assumption)|assumption)
                     have q124 : x10_2 < (l1.length : Int) := oD (by first|(with_reducible assumption)|assumption)
                     obtain ⟨ad124, e124, hx124_0⟩ := aI HR1.out x10_2 p124 q124
                     have hw124_0 := hx124_0
                     cases e124
                     replace hx124_0 := (HB.out.cell (World.block_lt_of_cell? w _ hx124_0)).trans hx124_0
                     replace p124 := eq_true p124
                     replace q124 := eq_true q124
                     have p125 : 0 ≤ (x11_3 : Int) := oD (by first|(with_reducible assumption)|assumption)
                     have q125 : x11_3 < (l1.length : Int) := oD (by first|(with_reducible assumption)|assumption)
                     obtain ⟨ad125, e125, hx125_0⟩ := aI HR1.out x11_3 p125 q125
                     have hw125_0 := hx125_0
                     obtain rfl : ad124 = ad125 := (by injection e125)
                     replace hx125_0 := (HB.out.cell (World.block_lt_of_cell? w _ hx125_0)).trans hx125_0
                     replace p125 := eq_true p125
                     replace q125 := eq_true q125
                     have p127 : 0 ≤ (x11_3 : Int) := oD (by first|(with_reducible assumption)|assumption)
                     have q127 : x11_3 < (x7_1.length : Int) := oD (by first|(with_reducible assumption)|assumption)
                     obtain ⟨ad127, e127, hx127_0⟩ := aI (kR HO_7.out).2.2 x11_3 p127 q127
                     cases e127
                     replace p127 := eq_true p127
                     replace q127 := eq_true q127
                     refine start_ (n := 23) (S := fun w' => w'.cell? (ad123.add (x10_2).toNat) = some (.int .i64 (rd x9_3 x10_2)) ∧ w'.cell? (ad124.add (x10_2).toNat) = some (.int .i64 (rd l1 x10_2)) ∧ w'.cell? (ad124.add (x11_3).toNat) = some (.int .i64 (rd l1 x11_3)) ∧ w'.cell? (ad127.add (x11_3).toNat) = some (.int .i64 (rd x7_1 x11_3))) (ds := [22]) #[false, false, false, false, false, false, false, false, false, false, false, false, false, false, false, false, false, false, false, false, false, false, false] (by kernel_rfl) rfl rfl ⟨hx123_0, ((HB.out.cell (World.block_lt_of_cell? w _ hw124_0)).trans hw124_0), ((HB.out.cell (World.block_lt_of_cell? w _ hw125_0)).trans hw125_0), hx127_0⟩ (fun hHeld => ?_); refine with_tabW spec_l6Most.tab13 spec_l6Most.bits13 (fun HT_ HW_ => ?_)
                     generalize wr.drew = w28 at HO_7 HO_9 HB hx123_0 hx124_0 hx125_0 hx127_0 hHeld ⊢
                     refine pure_ (i := 0) (N := some 43) (v := ?_) (a' := ?_) #[true, false, false, false, false, false, false, false, false, false, false, false, false, false, false, false, false, false, false, false, false, false, false] rfl rfl (any_of HT_.out (by kernel_rfl)) (fun _ _ _ h => h) (Or.inl ⟨by rfl, ?_⟩) ?_ ?_
                     rotate_left
                     ·intro w'
                      go_simp
                      with_reducible rfl
                     rotate_left
                     ·simp only [Act.put, lA, lZ, lS, i64_w, i32_w]
                      rfl
                     refine pure_ (i := 1) (N := some 44) (v := ?_) (a' := ?_) #[true, true, false, false, false, false, false, false, false, false, false, false, false, false, false, false, false, false, false, false, false, false, false] rfl rfl (any_of HT_.out (by kernel_rfl)) (fun _ _ _ h => h) (Or.inl ⟨by rfl, ?_⟩) ?_ ?_
                     rotate_left
                     ·intro w'
                      go_simp
                      with_reducible rfl
                     rotate_left
                     ·simp only [Act.put, lA, lZ, lS, i64_w, i32_w]
                      rfl
                     refine pure_ (i := 2) (N := some 45) (v := ?_) (a' := ?_) #[true, true, true, false, false, false, false, false, false, false, false, false, false, false, false, false, false, false, false, false, false, false, false] rfl rfl (any_of HT_.out (by kernel_rfl)) (fun _ _ _ h => h) (Or.inl ⟨by rfl, ?_⟩) ?_ ?_
                     rotate_left
                     ·intro w'
                      go_simp
                      with_reducible rfl
                     rotate_left
                     ·simp only [Act.put, lA, lZ, lS, i64_w, i32_w]
                      rfl
                     refine pure_ (i := 3) (N := some 46) (v := ?_) (a' := ?_) #[true, true, true, true, false, false, false, false, false, false, false, false, false, false, false, false, false, false, false, false, false, false, false] rfl rfl (any_of HT_.out (by kernel_rfl)) (fun _ _ _ h => h) (Or.inl ⟨by rfl, ?_⟩) ?_ ?_
                     rotate_left
                     ·intro w'
                      go_simp
                      with_reducible rfl
                     rotate_left
                     ·simp only [Act.put, lA, lZ, lS, i64_w, i32_w]
                      rfl
                     refine pure_ (i := 4) (N := some 47) (v := ?_) (a' := ?_) #[true, true, true, true, true, false, false, false, false, false, false, false, false, false, false, false, false, false, false, false, false, false, false] rfl rfl (any_of HT_.out (by kernel_rfl)) (fun _ _ _ h => h) (Or.inl ⟨by rfl, ?_⟩) ?_ ?_
                     rotate_left
                     ·intro w'
                      go_simp
                      with_reducible rfl
                     rotate_left
                     ·simp only [Act.put, lA, lZ, lS, i64_w, i32_w]
                      rfl
                     refine pure_ (i := 6) (N := some 49) (v := ?_) (a' := ?_) #[true, true, true, true, true, false, true, false, false, false, false, false, false, false, false, false, false, false, false, false, false, false, false] rfl rfl (any_of HT_.out (by kernel_rfl)) (fun _ _ _ h => h) (Or.inl ⟨by rfl, ?_⟩) ?_ ?_
                     rotate_left
                     ·intro w'
                      go_simp
                      with_reducible rfl
                     rotate_left
                     ·simp only [Act.put, lA, lZ, lS, i64_w, i32_w]
                      rfl
                     refine pure_ (i := 7) (N := some 50) (v := ?_) (a' := ?_) #[true, true, true, true, true, false, true, true, false, false, false, false, false, false, false, false, false, false, false, false, false, false, false] rfl rfl (any_of HT_.out (by kernel_rfl)) (fun _ _ _ h => h) (Or.inl ⟨by rfl, ?_⟩) ?_ ?_
                     rotate_left
                     ·intro w'
                      go_simp
                      with_reducible rfl
                     rotate_left
                     ·simp only [Act.put, lA, lZ, lS, i64_w, i32_w]
                      rfl
                     refine pure_ (i := 8) (N := some 51) (v := ?_) (a' := ?_) #[true, true, true, true, true, false, true, true, true, false, false, false, false, false, false, false, false, false, false, false, false, false, false] rfl rfl (any_of HT_.out (by kernel_rfl)) (fun _ _ _ h => h) (Or.inl ⟨by rfl, ?_⟩) ?_ ?_
                     rotate_left
                     ·intro w'
                      go_simp
                      with_reducible rfl
                     rotate_left
                     ·simp only [Act.put, lA, lZ, lS, i64_w, i32_w]
                      rfl
                     refine pure_ (i := 10) (N := some 53) (v := ?_) (a' := ?_) #[true, true, true, true, true, false, true, true, true, false, true, false, false, false, false, false, false, false, false, false, false, false, false] rfl rfl (any_of HT_.out (by kernel_rfl)) (fun _ _ _ h => h) (Or.inl ⟨by rfl, ?_⟩) ?_ ?_
                     rotate_left
                     ·intro w'
                      go_simp
                      with_reducible rfl
                     rotate_left
                     ·simp only [Act.put, lA, lZ, lS, i64_w, i32_w]
                      rfl
                     refine pure_ (i := 11) (N := some 54) (v := ?_) (a' := ?_) #[true, true, true, true, true, false, true, true, true, false, true, true, false, false, false, false, false, false, false, false, false, false, false] rfl rfl (any_of HT_.out (by kernel_rfl)) (fun _ _ _ h => h) (Or.inl ⟨by rfl, ?_⟩) ?_ ?_
                     rotate_left
                     ·intro w'
                      go_simp
                      with_reducible rfl
                     rotate_left
                     ·simp only [Act.put, lA, lZ, lS, i64_w, i32_w]
                      rfl
                     refine pure_ (i := 12) (N := some 55) (v := ?_) (a' := ?_) #[true, true, true, true, true, false, true, true, true, false, true, true, true, false, false, false, false, false, false, false, false, false, false] rfl rfl (any_of HT_.out (by kernel_rfl)) (fun _ _ _ h => h) (Or.inl ⟨by rfl, ?_⟩) ?_ ?_
                     rotate_left
                     ·intro w'
                      go_simp
                      with_reducible rfl
                     rotate_left
                     ·simp only [Act.put, lA, lZ, lS, i64_w, i32_w]
                      rfl
                     refine pure_ (i := 15) (N := some 58) (v := ?_) (a' := ?_) #[true, true, true, true, true, false, true, true, true, false, true, true, true, false, false, true, false, false, false, false, false, false, false] rfl rfl (any_of HT_.out (by kernel_rfl)) (fun _ _ _ h => h) (Or.inl ⟨by rfl, ?_⟩) ?_ ?_
                     rotate_left
                     ·intro w'
                      go_simp
                      with_reducible rfl
                     rotate_left
                     ·simp only [Act.put, lA, lZ, lS, i64_w, i32_w]
                      rfl
                     refine pure_ (i := 16) (N := some 59) (v := ?_) (a' := ?_) #[true, true, true, true, true, false, true, true, true, false, true, true, true, false, false, true, true, false, false, false, false, false, false] rfl rfl (any_of HT_.out (by kernel_rfl)) (fun _ _ _ h => h) (Or.inl ⟨by rfl, ?_⟩) ?_ ?_
                     rotate_left
                     ·intro w'
                      go_simp
                      with_reducible rfl
                     rotate_left
                     ·simp only [Act.put, lA, lZ, lS, i64_w, i32_w]
                      rfl
                     refine pure_ (i := 17) (N := some 60) (v := ?_) (a' := ?_) #[true, true, true, true, true, false, true, true, true, false, true, true, true, false, false, true, true, true, false, false, false, false, false] rfl rfl (any_of HT_.out (by kernel_rfl)) (fun _ _ _ h => h) (Or.inl ⟨by rfl, ?_⟩) ?_ ?_
                     rotate_left
                     ·intro w'
                      go_simp
                      with_reducible rfl
                     rotate_left
                     ·simp only [Act.put, lA, lZ, lS, i64_w, i32_w]
                      rfl
                     refine take_ (i := 5) (N := some 48) (v := ?_) (a' := ?_) #[true, true, true, true, true, true, true, true, true, false, true, true, true, false, false, true, true, true, false, false, false, false, false] rfl rfl (take_ofW HT_.out HW_.out (by kernel_rfl)) (fun _ _ _ h => h) (Or.inl ⟨by rfl, ?_⟩) hHeld ?_ ?_
                     rotate_left
                     ·rintro w' ⟨s0, s1, s2, s3⟩
                      go_simp
                      with_reducible rfl
                     rotate_left
                     ·simp only [Act.put, lA, lZ, lS, i64_w, i32_w]
                      rfl
                     refine take_ (i := 9) (N := some 52) (v := ?_) (a' := ?_) #[true, true, true, true, true, true, true, true, true, true, true, true, true, false, false, true, true, true, false, false, false, false, false] rfl rfl (take_ofW HT_.out HW_.out (by kernel_rfl)) (fun _ _ _ h => h) (Or.inl ⟨by rfl, ?_⟩) hHeld ?_ ?_
                     rotate_left
                     ·rintro w' ⟨s0, s1, s2, s3⟩
                      go_simp
                      with_reducible rfl
                     rotate_left
                     ·simp only [Act.put, lA, lZ, lS, i64_w, i32_w]
                      rfl
                     refine take_ (i := 13) (N := some 56) (v := ?_) (a' := ?_) #[true, true, true, true, true, true, true, true, true, true, true, true, true, true, false, true, true, true, false, false, false, false, false] rfl rfl (take_ofW HT_.out HW_.out (by kernel_rfl)) (fun _ _ _ h => h) (Or.inl ⟨by rfl, ?_⟩) hHeld ?_ ?_
                     rotate_left
                     ·rintro w' ⟨s0, s1, s2, s3⟩
                      go_simp
                      with_reducible rfl
                     rotate_left
                     ·simp only [Act.put, lA, lZ, lS, i64_w, i32_w]
                      rfl
                     refine take_ (i := 18) (N := some 61) (v := ?_) (a' := ?_) #[true, true, true, true, true, true, true, true, true, true, true, true, true, true, false, true, true, true, true, false, false, false, false] rfl rfl (take_ofW HT_.out HW_.out (by kernel_rfl)) (fun _ _ _ h => h) (Or.inl ⟨by rfl, ?_⟩) hHeld ?_ ?_
                     rotate_left
                     ·rintro w' ⟨s0, s1, s2, s3⟩
                      go_simp
                      with_reducible rfl
                     rotate_left
                     ·simp only [Act.put, lA, lZ, lS, i64_w, i32_w]
                      rfl
                     refine one_ (i := 14) (N := some 57) #[true, true, true, true, true, true, true, true, true, true, true, true, true, true, true, true, true, true, true, false, false, false, false] rfl rfl (one_of HT_.out (by kernel_rfl)) (by decide) (fun K hK => ?_)
                     refine goes_ Try.func26 (by kernel_rfl) rfl #[.int .i64 (rd l1 x10_2), .int .i64 (rd l1 x11_3)] (by rfl) rfl rfl (by (try simp only [List.map_toArray, List.map_cons, List.map_nil]); first|done|rfl|(simp only [List.length_drop, List.length_take]; rfl)) ?_
                     with_reducible refine (spec_l6Rise.calls (rd l1 x10_2) (rd l1 x11_3) t126 _ A24.out).mono ?_
                     rintro e w' ⟨rfl, ⟨nd, rfl⟩⟩
                     refine ⟨_, rfl, ?_⟩
                     have p27 : 0 ≤ (x10_2 : Int) := oD (by first|(with_reducible assumption)|assumption)
                     have q27 : (x10_2 : Int) < ((x9_3.length : Int) : Int) := oD (by first|(with_reducible assumption)|assumption)
                     obtain ⟨go27, co27, eo27, gb27, gl27, cl27, HG27⟩ := Kd.R_form HO_9.out (by omega)
                     (first|cases eo27|(injection eo27 with ea_ en_ ec_; (first|subst ea_|(injection ea_ with ea_; subst ea_)); subst ec_; clear en_))
                     have GB27 := Aside0.mk gb27
                     have GG27 := Aside0.mk HG27
                     clear gb27 gl27 HG27
                     (first|simp only [add_plain] at hx123_0|skip)
                     obtain ⟨hx27_0, hf27_0⟩ := Kd.R_celln 0 HO_9.out (x10_2 : Int) p27 q27
                     replace p27 := eq_true p27
                     replace q27 := eq_true q27
                     have HP30 := Kd.R_putn HO_9.out (x10_2 : Int) ji26
                     rw [← Ny128.out] at HP30
                     have HQ30 := Aside0.mk HP30
                     clear HP30
                     refine hK.out _ _ ⟨hHeld.1, ((HB.out.cell (World.block_lt_of_cell? w _ hw124_0)).trans hw124_0), ((HB.out.cell (World.block_lt_of_cell? w _ hw125_0)).trans hw125_0), hHeld.2.2.2⟩ (fun hHeld => ?_)
                     clear hK K
                     refine norm_ (a' := ?_) ?_ ?_
                     rotate_left
                     ·show Act.put _ (some 57) _ = _
                      simp only [Act.put, lA, lZ, lS, i64_w, i32_w]
                      rfl
                     refine pure_ (i := 19) (N := some 62) (v := ?_) (a' := ?_) #[true, true, true, true, true, true, true, true, true, true, true, true, true, true, true, true, true, true, true, true, false, false, false] rfl rfl (any_of HT_.out (by kernel_rfl)) (fun _ _ _ h => h) (Or.inl ⟨by rfl, ?_⟩) ?_ ?_
                     rotate_left
                     ·intro w'
                      go_simp
                      with_reducible rfl
                     rotate_left
                     ·simp only [Act.put, lA, lZ, lS, i64_w, i32_w]
                      rfl
                     refine pure_ (i := 20) (N := some 63) (v := ?_) (a' := ?_) #[true, true, true, true, true, true, true, true, true, true, true, true, true, true, true, true, true, true, true, true, true, false, false] rfl rfl (any_of HT_.out (by kernel_rfl)) (fun _ _ _ h => h) (Or.inl ⟨by rfl, ?_⟩) ?_ ?_
                     rotate_left
                     ·intro w'
                      go_simp
                      with_reducible rfl
                     rotate_left
                     ·simp only [Act.put, lA, lZ, lS, i64_w, i32_w]
                      rfl
                     refine pure_ (i := 21) (N := some 64) (v := ?_) (a' := ?_) #[true, true, true, true, true, true, true, true, true, true, true, true, true, true, true, true, true, true, true, true, true, true, false] rfl rfl (any_of HT_.out (by kernel_rfl)) (fun _ _ _ h => h) (Or.inl ⟨by rfl, ?_⟩) ?_ ?_
                     rotate_left
                     ·intro w'
                      go_simp
                      with_reducible rfl
                     rotate_left
                     ·simp only [Act.put, lA, lZ, lS, i64_w, i32_w]
                      rfl
                     refine last_ (i := 22) (N := none) #[true, true, true, true, true, true, true, true, true, true, true, true, true, true, true, true, true, true, true, true, true, true, true] rfl rfl (one_of HT_.out (by kernel_rfl)) (by decide) (fun K hK => ?_)
                     refine skip_ (w1 := ?_) (by rfl) rfl ?_ ?_
                     rotate_left
                     ·go_simp
                      rfl
                     refine hK.out _ _ ?_
                     clear hK K
                     refine done_ (done_of HT_.out (by kernel_rfl)) ?_
                     try go_wp2
                     go_roundg k3
                     case measure => have := HK1.out; have := HK2.out; have := HK3.out; omega
                     case rel => exact ⟨(y128), (wrap64 (x11_3 + 1)), (by first|rfl|(simp; done)|(simp [*]; done)), H', ⟨by have := HK1.out; have := HK2.out; have := HK3.out; omega⟩, ⟨by (with_reducible repeat first|apply rA|apply rN|apply rD); exact Kd.R_mono (Kd.R_far (p := ⟨go27, (x10_2 : Int).toNat, none⟩) (Kd.R_mono HO_7.out (fun k_ hk => (⟨hk, fun e_ => hk (by rw [e_]; rfl)⟩ : _ ∧ k_ ≠ go27))) (fun _ hk => hk.2) (.int .i64 ji26)) (fun _ hk => hk.1)⟩, ⟨by (with_reducible repeat first|apply rA|apply rN|apply rD); exact HQ30.out⟩, ⟨by repeat (first|(with_reducible first|exact HB.out|apply bA|apply bN|apply bD|refine below_set ?_ GB27.out)|exact HB.out)⟩⟩
                    ·rw [if_neg c25] at H
                     exact absurd H (by simp)
                   ·rw [if_neg c23] at H
                    exact absurd H (by simp)
                  ·rw [if_neg c22] at H
                   exact absurd H (by simp)
                 ·rw [if_neg c21] at H
                  exact absurd H (by simp)
                ·rw [if_neg c20] at H
                 have c20b0 : ((Int.tmod (ji19) 2) == 1) = false := beq_eq_false_iff_ne.mpr c20
                 have c20b1 : ((Int.tmod (ji19) 2) != 1) = true := bne_iff_ne.mpr c20
                 have H' := Aside0.mk H
                 clear H
                 have p122 : 0 ≤ (x10_2 : Int) := oD (by first|(with_reducible assumption)|assumption)
                 have q122 : x10_2 < (l0.length : Int) := oD (by first|(with_reducible assumption)|assumption)
                 obtain ⟨ad122, e122, hx122_0⟩ := aI HR0.out x10_2 p122 q122
                 cases e122
                 replace hx122_0 := (HB.out.cell (World.block_lt_of_cell? w _ hx122_0)).trans hx122_0
                 replace p122 := eq_true p122
                 replace q122 := eq_true q122
                 go_wp2
                 go_roundg k3
                 case measure => have := HK1.out; have := HK2.out; have := HK3.out; omega
                 case rel => exact ⟨(x9_3), (wrap64 (x11_3 + 1)), (by first|rfl|(simp; done)|(simp [*]; done)), H', ⟨by have := HK1.out; have := HK2.out; have := HK3.out; omega⟩, ⟨by (with_reducible repeat first|apply rA|apply rN|apply rD); exact HO_7.out⟩, ⟨by (with_reducible repeat first|apply rA|apply rN|apply rD); exact HO_9.out⟩, ⟨by repeat (first|(with_reducible first|exact HB.out|apply bA|apply bN|apply bD)|exact HB.out)⟩⟩
               ·rw [if_neg c18] at H
                exact absurd H (by simp)
              ·rw [if_neg c17] at H
               exact absurd H (by simp)
             ·rw [if_neg c16] at H
              exact absurd H (by simp)
            ·rw [if_neg c15] at H
             have c15b0 : decide (x11_3 < (l0.length : Int)) = false := decide_eq_false c15
             clear c15
             have H' := Aside0.mk H
             clear H
             go_wp2
             go_roundg k3
             case measure => have := HK1.out; have := HK2.out; have := HK3.out; omega
             case rel => exact ⟨(x9_3), (wrap64 (x10_2 + 1)), (by first|rfl|(simp; done)|(simp [*]; done)), H', ⟨by have := HK1.out; have := HK2.out; have := HK3.out; omega⟩, ⟨by (with_reducible repeat first|apply rA|apply rN|apply rD); exact HO_7.out⟩, ⟨by (with_reducible repeat first|apply rA|apply rN|apply rD); exact HO_9.out⟩, ⟨by repeat (first|(with_reducible first|exact HB.out|apply bA|apply bN|apply bD)|exact HB.out)⟩⟩
         ·rw [if_neg c14] at H
          have c14b0 : decide (x10_2 < (l0.length : Int)) = false := decide_eq_false c14
          clear c14
          have H' := Aside0.mk H
          clear H
          go_wp2
          go_roundg k2
          case measure => have := HK1.out; have := HK2.out; omega
          case rel => exact ⟨(x9_2), (wrap64 (x8_1 + 1)), (by first|rfl|(simp; done)|(simp [*]; done)), H', ⟨by have := HK1.out; have := HK2.out; omega⟩, ⟨by (with_reducible repeat first|apply rA|apply rN|apply rD); exact Kd.R_mono HO_9.out (fun _ hk => trivial)⟩, ⟨by repeat (first|(with_reducible first|exact HB.out|apply bA|apply bN|apply bD)|exact HB.out)⟩⟩
      ·rw [if_neg c9] at H
       exact absurd H (by simp)
     ·rw [if_neg c8] at H
      have c8b0 : decide (x8_1 < a2) = false := decide_eq_false c8
      clear c8
      obtain rfl := Option.some.inj H
      go_wp2
      go_ret
      exact ⟨_, by first|rfl|(simp [errW_none, errW_some] <;> rfl)|(simp [*, errW_none, errW_some] <;> rfl), by (with_reducible repeat first|apply rA|apply rN|apply rD); exact HO_7.out, by repeat (first|(with_reducible first|exact HB.out|apply bA|apply bN|apply bD)|exact HB.out)⟩
  ·rw [if_neg c5] at H
   exact absurd H (by simp)
 ·rw [if_neg c4] at H
  exact absurd H (by simp)

end Go.Proofs.Ytkofidpgbmajdaa.PFnBestTour
