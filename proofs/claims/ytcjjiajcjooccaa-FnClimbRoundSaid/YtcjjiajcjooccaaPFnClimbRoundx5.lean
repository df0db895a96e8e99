-- Written by a program of this session (the kit's print, changed).
import Derived.Test.YtcjjiajcjooccaaSq
import Derived.Test.YtcjjiajcjooccaaPFnClimbRoundx0
namespace Go.Proofs.Ytcjjiajcjooccaa.PFnClimbRound
open Go.RowKit Go.Proofs.YtcjjiajcjooccaaW.PrintWords Go.Proofs.YtcjjiajcjooccaaW.PrintLast Go.Proofs.YtcjjiajcjooccaaW.PrintMore
attribute [local go_sem] max2_int min2_int max_two min_two max_three min_three max_four min_four   -- for this text's walks alone
set_option linter.unusedVariables false
set_option linter.unusedSimpArgs false

/-! ### impl_NetOk: function 44 -/
mutual
def impl_NetOk.j0 : Nat → List Int → Bool → Option (Bool)
 | 0, _, _ => none
 | k + 1, x0, x13 => if x13 = true then (some false) else (impl_NetOk.l0 k x0 x0 (x0.length : Int) 0)
def impl_NetOk.l0 : Nat → List Int → List Int → Int → Int → Option (Bool)
 | 0, _, _, _, _ => none
 | k + 1, x0, x14, x15, x16 => if x16 < x15 then (if 0 ≤ x16 then (if x16 < (x14.length : Int) then (if (rd x14 x16) < 0 then (impl_NetOk.j2 k x0 x16 (rd x14 x16) x14 x15 x16 true) else (if (rd x14 x16) ≥ (shl .i64 1 (x0.length : Int)) then (impl_NetOk.j2 k x0 x16 (rd x14 x16) x14 x15 x16 true) else (impl_NetOk.j2 k x0 x16 (rd x14 x16) x14 x15 x16 ((Go.bits .and .i64 (shr .i64 (rd x14 x16) x16) 1) == 1)))) else (none)) else (none)) else (some true)
def impl_NetOk.j2 : Nat → List Int → Int → Int → List Int → Int → Int → Bool → Option (Bool)
 | 0, _, _, _, _, _, _, _ => none
 | k + 1, x0, x3, x4, x14, x15, x16, x36 => if x36 = true then (some false) else (impl_NetOk.l1 k x0 x3 x4 x14 x15 x16 (x0.length : Int) 0)
def impl_NetOk.l1 : Nat → List Int → Int → Int → List Int → Int → Int → Int → Int → Option (Bool)
 | 0, _, _, _, _, _, _, _, _ => none
 | k + 1, x0, x3, x4, x14, x15, x16, x38, x39 => if x39 < x38 then (if 0 ≤ x39 then (if x39 < (x0.length : Int) then (if 0 ≤ x3 then (if (Go.bits .and .i64 (shr .i64 x4 x39) 1) = (Go.bits .and .i64 (shr .i64 (rd x0 x39) x3) 1) then (impl_NetOk.l1 k x0 x3 x4 x14 x15 x16 x38 (wrap64 (x39 + 1))) else (some false)) else (none)) else (none)) else (none)) else (impl_NetOk.l0 k x0 x14 x15 (wrap64 (x16 + 1)))
end
def impl_NetOk.f (k : Nat) (l0 : List Int) : Option (Bool) := if (l0.length : Int) < 1 then (impl_NetOk.j0 k l0 true) else (impl_NetOk.j0 k l0 (decide ((l0.length : Int) > 6)))
theorem impl_NetOk.mono_l : ∀ k, (∀ y0 y1, LeO (impl_NetOk.j0 k y0 y1) (impl_NetOk.j0 (k + 1) y0 y1)) ∧ (∀ y0 y1 y2 y3, LeO (impl_NetOk.l0 k y0 y1 y2 y3) (impl_NetOk.l0 (k + 1) y0 y1 y2 y3)) ∧ (∀ y0 y1 y2 y3 y4 y5 y6, LeO (impl_NetOk.j2 k y0 y1 y2 y3 y4 y5 y6) (impl_NetOk.j2 (k + 1) y0 y1 y2 y3 y4 y5 y6)) ∧ (∀ y0 y1 y2 y3 y4 y5 y6 y7, LeO (impl_NetOk.l1 k y0 y1 y2 y3 y4 y5 y6 y7) (impl_NetOk.l1 (k + 1) y0 y1 y2 y3 y4 y5 y6 y7))
 | 0 => ⟨fun _ _ r h => by simp [impl_NetOk.j0] at h, fun _ _ _ _ r h => by simp [impl_NetOk.l0] at h, fun _ _ _ _ _ _ _ r h => by simp [impl_NetOk.j2] at h, fun _ _ _ _ _ _ _ _ r h => by simp [impl_NetOk.l1] at h⟩
 | k + 1 => by
  obtain ⟨ih0, ih1, ih2, ih3⟩ := impl_NetOk.mono_l k
  refine ⟨?_, ?_, ?_, ?_⟩
  ·intro y0 y1
   unfold impl_NetOk.j0
   repeat' first|(with_reducible first|exact ih0 _ _|exact ih1 _ _ _ _|exact ih2 _ _ _ _ _ _ _|exact ih3 _ _ _ _ _ _ _ _|exact LeO.refl _|exact LeO.none _|refine LeO.ite ?_ ?_|refine LeO.bind ?_ (fun _ => ?_))|exact ih0 _ _|exact ih1 _ _ _ _|exact ih2 _ _ _ _ _ _ _|exact ih3 _ _ _ _ _ _ _ _|exact LeO.none _|refine LeO.ite ?_ ?_|refine LeO.bind ?_ (fun _ => ?_)
  ·intro y0 y1 y2 y3
   unfold impl_NetOk.l0
   repeat' first|(with_reducible first|exact ih0 _ _|exact ih1 _ _ _ _|exact ih2 _ _ _ _ _ _ _|exact ih3 _ _ _ _ _ _ _ _|exact LeO.refl _|exact LeO.none _|refine LeO.ite ?_ ?_|refine LeO.bind ?_ (fun _ => ?_))|exact ih0 _ _|exact ih1 _ _ _ _|exact ih2 _ _ _ _ _ _ _|exact ih3 _ _ _ _ _ _ _ _|exact LeO.none _|refine LeO.ite ?_ ?_|refine LeO.bind ?_ (fun _ => ?_)
  ·intro y0 y1 y2 y3 y4 y5 y6
   unfold impl_NetOk.j2
   repeat' first|(with_reducible first|exact ih0 _ _|exact ih1 _ _ _ _|exact ih2 _ _ _ _ _ _ _|exact ih3 _ _ _ _ _ _ _ _|exact LeO.refl _|exact LeO.none _|refine LeO.ite ?_ ?_|refine LeO.bind ?_ (fun _ => ?_))|exact ih0 _ _|exact ih1 _ _ _ _|exact ih2 _ _ _ _ _ _ _|exact ih3 _ _ _ _ _ _ _ _|exact LeO.none _|refine LeO.ite ?_ ?_|refine LeO.bind ?_ (fun _ => ?_)
  ·intro y0 y1 y2 y3 y4 y5 y6 y7
   unfold impl_NetOk.l1
   repeat' first|(with_reducible first|exact ih0 _ _|exact ih1 _ _ _ _|exact ih2 _ _ _ _ _ _ _|exact ih3 _ _ _ _ _ _ _ _|exact LeO.refl _|exact LeO.none _|refine LeO.ite ?_ ?_|refine LeO.bind ?_ (fun _ => ?_))|exact ih0 _ _|exact ih1 _ _ _ _|exact ih2 _ _ _ _ _ _ _|exact ih3 _ _ _ _ _ _ _ _|exact LeO.none _|refine LeO.ite ?_ ?_|refine LeO.bind ?_ (fun _ => ?_)
theorem impl_NetOk.mono : ∀ a0 k, LeO (impl_NetOk.f k a0) (impl_NetOk.f (k + 1) a0) := by
 intro a0 k
 obtain ⟨ih0, ih1, ih2, ih3⟩ := impl_NetOk.mono_l k
 unfold impl_NetOk.f
 repeat' first|(with_reducible first|exact ih0 _ _|exact ih1 _ _ _ _|exact ih2 _ _ _ _ _ _ _|exact ih3 _ _ _ _ _ _ _ _|exact LeO.refl _|exact LeO.none _|refine LeO.ite ?_ ?_|refine LeO.bind ?_ (fun _ => ?_))|exact ih0 _ _|exact ih1 _ _ _ _|exact ih2 _ _ _ _ _ _ _|exact ih3 _ _ _ _ _ _ _ _|exact LeO.none _|refine LeO.ite ?_ ?_|refine LeO.bind ?_ (fun _ => ?_)
set_option maxHeartbeats 8000000 in
set_option maxRecDepth 100000 in
theorem impl_NetOk.calls (k : Nat) (A0 : Option Addr) (c0 : Nat) (l0 : List Int) (r : Bool) (w : World) (hr0 : Kd.C (Kd.int .i64) w A0 l0.length l0) (hc0 : l0.length ≤ c0) (h : impl_NetOk.f k l0 = some r) :
  Calls Try.prog 44 #[.slice A0 l0.length c0] w fun e w' => e = .returned (.bool r) ∧ Drawn0 w w' := by
 have HR0 := Aside0.mk hr0
 have HC0 := Aside0.mk hc0
 clear hr0 hc0
 have H : (if (l0.length : Int) < 1 then (impl_NetOk.j0 k l0 true) else (impl_NetOk.j0 k l0 (decide ((l0.length : Int) > 6)))) = some r := h
 clear h
 have HC2 := Aside0.mk H
 clear H
 go_enter Try.func44, Try.ntmps44
 go_upto_region 1 with (fail)
 repeat (go_quiet (fail);go_upto_region 1 with (fail))
 go_cut [13] (fun v13 wc => ∃ (kq : Nat) (x13_1 : Bool), v13 = .bool x13_1 ∧ Aside0 (impl_NetOk.j0 kq l0 x13_1 = some r) ∧ Aside0 (kq ≤ k) ∧ Drawn0 w wc)
 case first =>
  have H := HC2.out
  clear HC2
  by_cases c3 : (l0.length : Int) < 1
  ·rw [if_pos c3] at H
   have c3b0 : decide ((l0.length : Int) < 1) = true := decide_eq_true c3
   have c3b1 : decide (l0.length < 1) = true := decide_eq_true (by omega)
   clear c3
   (first|rw [c3b0]|(simp only [i64_w, i32_w]; rw [c3b0])|skip)
   have H' := Aside0.mk H
   clear H
   go_wp2
   repeat (go_quiet (fail);try go_wp2)
   go_meet
   case rel => exact ⟨_, (true), (by first|rfl|(simp; done)|(simp [*]; done)), H', ⟨by first|omega|exact Nat.le_refl _⟩, by repeat (first|exact Drawn0.refl _|apply Drawn0.step)⟩
  ·rw [if_neg c3] at H
   have c3b0 : decide ((l0.length : Int) < 1) = false := decide_eq_false c3
   have c3b1 : decide (l0.length < 1) = false := decide_eq_false (by omega)
   clear c3
   (first|rw [c3b0]|(simp only [i64_w, i32_w]; rw [c3b0])|skip)
   have H' := Aside0.mk H
   clear H
   go_wp2
   repeat (go_quiet (fail);try go_wp2)
   go_meet
   case rel => exact ⟨_, (decide ((l0.length : Int) > 6)), (by first|rfl|(simp; done)|(simp [*]; done)), H', ⟨by first|omega|exact Nat.le_refl _⟩, by repeat (first|exact Drawn0.refl _|apply Drawn0.step)⟩
 case rest =>
  clear HC2
  try clear p2
  try clear c3
  try clear c3b0
  try clear c3b1
  obtain ⟨kq, x13_1, rfl, HA, HJ1, ⟨mc1, rfl⟩⟩ := hcut
  cases kq with
  | zero => exact absurd HA.out (by simp [impl_NetOk.j0])
  | succ kj1 =>
   have H := HA.out
   clear HA
   simp only [impl_NetOk.j0] at H
   by_cases c4 : x13_1 = true
   ·subst c4
    have H1 : (some false) = some r := by rw [if_pos rfl] at H; exact H
    clear H
    have H := H1
    clear H1
    obtain rfl := Option.some.inj H
    go_wp2
    repeat (go_quiet (fail);try go_wp2)
    go_ret
    exact ⟨by first|rfl|(simp; done)|(simp [*]; done), by repeat (first|exact Drawn0.refl _|apply Drawn0.step)⟩
   ·replace c4 := Bool.eq_false_iff.mpr c4
    subst c4
    have H1 : (impl_NetOk.l0 kj1 l0 l0 (l0.length : Int) 0) = some r := by rw [if_neg (show ¬ (false = true) by decide)] at H; exact H
    clear H
    have H := H1
    clear H1
    have H' := Aside0.mk H
    clear H
    go_wp2
    repeat (go_quiet (fail);try go_wp2)
    go_loopg [16] kj1 (fun kq v16 w' => ∃ (x16_2 : Int), v16 = .int .i64 x16_2 ∧ Aside0 (impl_NetOk.l0 kq l0 l0 (l0.length : Int) x16_2 = some r) ∧ Aside0 (kq ≤ kj1) ∧ Drawn0 w w')
    case atStart => exact ⟨(0), (by first|rfl|(simp; done)|(simp [*]; done)), H', ⟨Nat.le_refl _⟩, by repeat (first|exact Drawn0.refl _|apply Drawn0.step)⟩
    case round =>
     clear H'
     try clear c1
     try clear p2
     try clear c3
     try clear c3b0
     try clear c3b1
     try clear c4
     try clear p2
     obtain ⟨x16_2, rfl, HA, HK2, ⟨m2, rfl⟩⟩ := hrel
     cases gk with
     | zero => exact absurd HA.out (by simp [impl_NetOk.l0])
     | succ k2 =>
      have H := HA.out
      clear HA
      simp only [impl_NetOk.l0] at H
      by_cases c5 : x16_2 < (l0.length : Int)
      ·rw [if_pos c5] at H
       have c5b0 : decide (x16_2 < (l0.length : Int)) = true := decide_eq_true c5
       clear c5
       by_cases c6 : 0 ≤ x16_2
       ·rw [if_pos c6] at H
        have c6b0 : decide (0 ≤ x16_2) = true := decide_eq_true c6
        clear c6
        by_cases c7 : x16_2 < (l0.length : Int)
        ·rw [if_pos c7] at H
         have c7b0 : decide (x16_2 < (l0.length : Int)) = true := decide_eq_true c7
         clear c7
         have HC8 := Aside0.mk H
         clear H
         have p246 : 0 ≤ (x16_2 : Int) := oD (by first|(with_reducible assumption)|assumption)
         have q246 : x16_2 < (l0.length : Int) := oD (by first|(with_reducible assumption)|assumption)
         obtain ⟨ad246, e246, hx246_0⟩ := aI HR0.out x16_2 p246 q246
         cases e246
         replace p246 := eq_true p246
         replace q246 := eq_true q246
         go_upto_region 6 with (fail)
         repeat (go_quiet (fail);go_upto_region 6 with (fail))
         go_cut [36] (fun v36 wc => ∃ (kq : Nat) (x36_7 : Bool), v36 = .bool x36_7 ∧ Aside0 (impl_NetOk.j2 kq l0 x16_2 (rd l0 x16_2) l0 (l0.length : Int) x16_2 x36_7 = some r) ∧ Aside0 (kq ≤ k2) ∧ Drawn0 w wc)
         case first =>
          have H := HC8.out
          clear HC8
          by_cases c9 : (rd l0 x16_2) < 0
          ·rw [if_pos c9] at H
           have c9b0 : decide ((rd l0 x16_2) < 0) = true := decide_eq_true c9
           clear c9
           (first|rw [c9b0]|(simp only [i64_w, i32_w]; rw [c9b0])|skip)
           have H' := Aside0.mk H
           clear H
           go_wp2
           repeat (go_quiet (fail);try go_wp2)
           go_meet
           case rel => exact ⟨_, (true), (by first|rfl|(simp; done)|(simp [*]; done)), H', ⟨by have := HJ1.out; have := HK2.out; first|omega|exact Nat.le_refl _⟩, by repeat (first|exact Drawn0.refl _|apply Drawn0.step)⟩
          ·rw [if_neg c9] at H
           have c9b0 : decide ((rd l0 x16_2) < 0) = false := decide_eq_false c9
           clear c9
           (first|rw [c9b0]|(simp only [i64_w, i32_w]; rw [c9b0])|skip)
           obtain ⟨ji10, hji10⟩ : ∃ j_ : Int, (shl .i64 1 (l0.length : Int)) = j_ := ⟨_, rfl⟩
           replace H : (if (rd l0 x16_2) ≥ (ji10) then (impl_NetOk.j2 k2 l0 x16_2 (rd l0 x16_2) l0 (l0.length : Int) x16_2 true) else (impl_NetOk.j2 k2 l0 x16_2 (rd l0 x16_2) l0 (l0.length : Int) x16_2 ((Go.bits .and .i64 (shr .i64 (rd l0 x16_2) x16_2) 1) == 1))) = some r := by first|(rw [hji10] at H; exact H)|(simp only [hji10] at H ⊢; exact H)
           have hji10_ : (IntKind.i64.wrap (1 * 2 ^ min (l0.length : Int).toNat 64)) = ji10 := hji10
           have hji10z : (l0.length : Int) ≤ 64 → (IntKind.i64.wrap (1 * 2 ^ (l0.length : Int).toNat)) = ji10 := shl_small hji10
           have hji10p : (IntKind.i64.wrap (1 * 2 ^ min l0.length 64)) = ji10 := hji10_
           have hji10q : (l0.length : Int) ≤ 64 → (IntKind.i64.wrap (1 * 2 ^ l0.length)) = ji10 := hji10z
           have hji10r : (IntKind.i64.wrap (2 ^ min l0.length 64)) = ji10 := by have h_ := hji10p; rw [Int.one_mul] at h_; exact h_
           have hji10s : (l0.length : Int) ≤ 64 → (IntKind.i64.wrap (2 ^ l0.length)) = ji10 := fun hle_ => by have h_ := hji10q hle_; rw [Int.one_mul] at h_; exact h_
           have hji10u : (IntKind.i64.wrap (2 ^ min (l0.length : Int).toNat 64)) = ji10 := by have h_ := hji10_; rw [Int.one_mul] at h_; exact h_
           have hji10v : (l0.length : Int) ≤ 64 → (IntKind.i64.wrap (2 ^ (l0.length : Int).toNat)) = ji10 := fun hle_ => by have h_ := hji10z hle_; rw [Int.one_mul] at h_; exact h_
           have hji10y : (wrap64 (1 * 2 ^ min (l0.length : Int).toNat 64)) = ji10 := (i64_w _).symm.trans hji10_
           have hji10x : (l0.length : Int) ≤ 64 → (wrap64 (1 * 2 ^ (l0.length : Int).toNat)) = ji10 := fun h_ => (i64_w _).symm.trans (hji10z h_)
           by_cases c11 : (rd l0 x16_2) ≥ (ji10)
           ·rw [if_pos c11] at H
            have c11b0 : decide ((ji10) ≤ (rd l0 x16_2)) = true := decide_eq_true c11
            clear c11
            have H' := Aside0.mk H
            clear H
            go_wp2
            repeat (go_quiet (fail);try go_wp2)
            go_meet
            case rel => exact ⟨_, (true), (by first|rfl|(simp; done)|(simp [*]; done)), H', ⟨by have := HJ1.out; have := HK2.out; first|omega|exact Nat.le_refl _⟩, by repeat (first|exact Drawn0.refl _|apply Drawn0.step)⟩
           ·rw [if_neg c11] at H
            have c11b0 : decide ((ji10) ≤ (rd l0 x16_2)) = false := decide_eq_false c11
            clear c11
            have c12b0 := eq_true (oD (by first|(with_reducible assumption)|assumption) : 0 ≤ x16_2)
            obtain ⟨ji13, hji13⟩ : ∃ j_ : Int, (shr .i64 (rd l0 x16_2) x16_2) = j_ := ⟨_, rfl⟩
            replace H : (impl_NetOk.j2 k2 l0 x16_2 (rd l0 x16_2) l0 (l0.length : Int) x16_2 ((Go.bits .and .i64 (ji13) 1) == 1)) = some r := by first|(rw [hji13] at H; exact H)|(simp only [hji13] at H ⊢; exact H)
            have hji13_ : ((rd l0 x16_2) / 2 ^ min x16_2.toNat 64) = ji13 := hji13
            have hji13z : x16_2 ≤ 64 → ((rd l0 x16_2) / 2 ^ x16_2.toNat) = ji13 := shr_small hji13
            have H' := Aside0.mk H
            clear H
            go_wp2
            repeat (go_quiet (fail);try go_wp2)
            go_meet
            case rel => exact ⟨_, (((Go.bits .and .i64 (ji13) 1) == 1)), (by first|rfl|(simp; done)|(simp only [← hji13] <;> (first|rfl|simp))|(simp [*]; done)), H', ⟨by have := HJ1.out; have := HK2.out; first|omega|exact Nat.le_refl _⟩, by repeat (first|exact Drawn0.refl _|apply Drawn0.step)⟩
         case rest =>
          clear HC8
          try clear c1
          try clear p2
          try clear q2
          try clear hx2
          try clear c3
          try clear c3b0
          try clear c3b1
          try clear c4
          try clear c5
          try clear c5b0
          try clear c6
          try clear c6b0
          try clear p6
          try clear c7
          try clear c7b0
          try clear c9
          try clear c9b0
          try clear c11
          try clear c11b0
          try clear c12
          try clear c12b0
          try clear hx246_0
          try clear p2
          try clear p246
          try clear q246
          obtain ⟨kq, x36_7, rfl, HA, HJ7, ⟨mc7, rfl⟩⟩ := hcut
          cases kq with
          | zero => exact absurd HA.out (by simp [impl_NetOk.j2])
          | succ kj7 =>
           have H := HA.out
           clear HA
           simp only [impl_NetOk.j2] at H
           by_cases c14 : x36_7 = true
           ·subst c14
            have H1 : (some false) = some r := by rw [if_pos rfl] at H; exact H
            clear H
            have H := H1
            clear H1
            obtain rfl := Option.some.inj H
            go_wp2
            repeat (go_quiet (fail);try go_wp2)
            go_ret
            exact ⟨by first|rfl|(simp; done)|(simp [*]; done), by repeat (first|exact Drawn0.refl _|apply Drawn0.step)⟩
           ·replace c14 := Bool.eq_false_iff.mpr c14
            subst c14
            have H1 : (impl_NetOk.l1 kj7 l0 x16_2 (rd l0 x16_2) l0 (l0.length : Int) x16_2 (l0.length : Int) 0) = some r := by rw [if_neg (show ¬ (false = true) by decide)] at H; exact H
            clear H
            have H := H1
            clear H1
            have H' := Aside0.mk H
            clear H
            go_wp2
            repeat (go_quiet (fail);try go_wp2)
            go_loopg [39] kj7 (fun kq v39 w' => ∃ (x39_4 : Int), v39 = .int .i64 x39_4 ∧ Aside0 (impl_NetOk.l1 kq l0 x16_2 (rd l0 x16_2) l0 (l0.length : Int) x16_2 (l0.length : Int) x39_4 = some r) ∧ Aside0 (kq ≤ kj7) ∧ Drawn0 w w')
            case atStart => exact ⟨(0), (by first|rfl|(simp; done)|(simp [*]; done)), H', ⟨Nat.le_refl _⟩, by repeat (first|exact Drawn0.refl _|apply Drawn0.step)⟩
            case round =>
             clear H'
             try clear c1
             try clear p2
             try clear q2
             try clear hx2
             try clear c3
             try clear c3b0
             try clear c3b1
             try clear c4
             try clear c5
             try clear c5b0
             try clear c6
             try clear c6b0
             try clear p6
             try clear c7
             try clear c7b0
             try clear c9
             try clear c9b0
             try clear c11
             try clear c11b0
             try clear c12
             try clear c12b0
             try clear c14
             try clear hx246_0
             try clear p2
             try clear p246
             try clear p6
             try clear q2
             try clear q246
             obtain ⟨x39_4, rfl, HA, HK4, ⟨m4, rfl⟩⟩ := hrel
             cases gk with
             | zero => exact absurd HA.out (by simp [impl_NetOk.l1])
             | succ k4 =>
              have H := HA.out
              clear HA
              simp only [impl_NetOk.l1] at H
              by_cases c15 : x39_4 < (l0.length : Int)
              ·rw [if_pos c15] at H
               have c15b0 : decide (x39_4 < (l0.length : Int)) = true := decide_eq_true c15
               clear c15
               by_cases c16 : 0 ≤ x39_4
               ·rw [if_pos c16] at H
                have c16b0 := eq_true c16
                have c16b1 : decide (0 ≤ x39_4) = true := decide_eq_true c16
                clear c16
                obtain ⟨ji17, hji17⟩ : ∃ j_ : Int, (shr .i64 (rd l0 x16_2) x39_4) = j_ := ⟨_, rfl⟩
                replace H : (if x39_4 < (l0.length : Int) then (if 0 ≤ x16_2 then (if (Go.bits .and .i64 (ji17) 1) = (Go.bits .and .i64 (shr .i64 (rd l0 x39_4) x16_2) 1) then (impl_NetOk.l1 k4 l0 x16_2 (rd l0 x16_2) l0 (l0.length : Int) x16_2 (l0.length : Int) (wrap64 (x39_4 + 1))) else (some false)) else (none)) else (none)) = some r := by first|(rw [hji17] at H; exact H)|(simp only [hji17] at H ⊢; exact H)
                have hji17_ : ((rd l0 x16_2) / 2 ^ min x39_4.toNat 64) = ji17 := hji17
                have hji17z : x39_4 ≤ 64 → ((rd l0 x16_2) / 2 ^ x39_4.toNat) = ji17 := shr_small hji17
                by_cases c18 : x39_4 < (l0.length : Int)
                ·rw [if_pos c18] at H
                 have c18b0 : decide (x39_4 < (l0.length : Int)) = true := decide_eq_true c18
                 clear c18
                 by_cases c19 : 0 ≤ x16_2
                 ·rw [if_pos c19] at H
                  have c19b0 := eq_true c19
                  have c19b1 : decide (0 ≤ x16_2) = true := decide_eq_true c19
                  clear c19
                  obtain ⟨ji20, hji20⟩ : ∃ j_ : Int, (shr .i64 (rd l0 x39_4) x16_2) = j_ := ⟨_, rfl⟩
                  replace H : (if (Go.bits .and .i64 (ji17) 1) = (Go.bits .and .i64 (ji20) 1) then (impl_NetOk.l1 k4 l0 x16_2 (rd l0 x16_2) l0 (l0.length : Int) x16_2 (l0.length : Int) (wrap64 (x39_4 + 1))) else (some false)) = some r := by first|(rw [hji20] at H; exact H)|(simp only [hji20] at H ⊢; exact H)
                  have hji20_ : ((rd l0 x39_4) / 2 ^ min x16_2.toNat 64) = ji20 := hji20
                  have hji20z : x16_2 ≤ 64 → ((rd l0 x39_4) / 2 ^ x16_2.toNat) = ji20 := shr_small hji20
                  by_cases c21 : (Go.bits .and .i64 (ji17) 1) = (Go.bits .and .i64 (ji20) 1)
                  ·rw [if_pos c21] at H
                   have c21b0 : ((Go.bits .and .i64 (ji17) 1) == (Go.bits .and .i64 (ji20) 1)) = true := beq_iff_eq.mpr c21
                   have c21b1 : ((Go.bits .and .i64 (ji17) 1) != (Go.bits .and .i64 (ji20) 1)) = false := bne_eq_false_iff_eq.mpr c21
                   clear c21
                   have H' := Aside0.mk H
                   clear H
                   have p247 : 0 ≤ (x39_4 : Int) := oD (by first|(with_reducible assumption)|assumption)
                   have q247 : x39_4 < (l0.length : Int) := oD (by first|(with_reducible assumption)|assumption)
                   obtain ⟨ad247, e247, hx247_0⟩ := aI HR0.out x39_4 p247 q247
                   obtain rfl : ad246 = ad247 := (by injection e247)
                   replace p247 := eq_true p247
                   replace q247 := eq_true q247
                   go_wp2
                   repeat (go_quiet (fail);try go_wp2)
                   go_roundg k4
                   case measure => have := HJ1.out; have := HK2.out; have := HJ7.out; have := HK4.out; omega
                   case rel => exact ⟨(wrap64 (x39_4 + 1)), (by first|rfl|(simp; done)|(simp [*]; done)), H', ⟨by have := HJ1.out; have := HK2.out; have := HJ7.out; have := HK4.out; omega⟩, by repeat (first|exact Drawn0.refl _|apply Drawn0.step)⟩
                  ·rw [if_neg c21] at H
                   have c21b0 : ((Go.bits .and .i64 (ji17) 1) == (Go.bits .and .i64 (ji20) 1)) = false := beq_eq_false_iff_ne.mpr c21
                   have c21b1 : ((Go.bits .and .i64 (ji17) 1) != (Go.bits .and .i64 (ji20) 1)) = true := bne_iff_ne.mpr c21
                   obtain rfl := Option.some.inj H
                   have p247 : 0 ≤ (x39_4 : Int) := oD (by first|(with_reducible assumption)|assumption)
                   have q247 : x39_4 < (l0.length : Int) := oD (by first|(with_reducible assumption)|assumption)
                   obtain ⟨ad247, e247, hx247_0⟩ := aI HR0.out x39_4 p247 q247
                   obtain rfl : ad246 = ad247 := (by injection e247)
                   replace p247 := eq_true p247
                   replace q247 := eq_true q247
                   go_wp2
                   repeat (go_quiet (fail);try go_wp2)
                   go_ret
                   exact ⟨by first|rfl|(simp; done)|(simp only [← hji17, ← hji20] <;> (first|rfl|simp))|(simp [*]; done), by repeat (first|exact Drawn0.refl _|apply Drawn0.step)⟩
                 ·rw [if_neg c19] at H
                  exact absurd H (by simp)
                ·rw [if_neg c18] at H
                 exact absurd H (by simp)
               ·rw [if_neg c16] at H
                exact absurd H (by simp)
              ·rw [if_neg c15] at H
               have c15b0 : decide (x39_4 < (l0.length : Int)) = false := decide_eq_false c15
               clear c15
               have H' := Aside0.mk H
               clear H
               go_wp2
               repeat (go_quiet (fail);try go_wp2)
               go_roundg k4
               case measure => have := HJ1.out; have := HK2.out; have := HJ7.out; have := HK4.out; omega
               case rel => exact ⟨(wrap64 (x16_2 + 1)), (by first|rfl|(simp; done)|(simp [*]; done)), H', ⟨by have := HJ1.out; have := HK2.out; have := HJ7.out; have := HK4.out; omega⟩, by repeat (first|exact Drawn0.refl _|apply Drawn0.step)⟩
        ·rw [if_neg c7] at H
         exact absurd H (by simp)
       ·rw [if_neg c6] at H
        exact absurd H (by simp)
      ·rw [if_neg c5] at H
       have c5b0 : decide (x16_2 < (l0.length : Int)) = false := decide_eq_false c5
       clear c5
       obtain rfl := Option.some.inj H
       go_wp2
       repeat (go_quiet (fail);try go_wp2)
       go_ret
       exact ⟨by first|rfl|(simp; done)|(simp [*]; done), by repeat (first|exact Drawn0.refl _|apply Drawn0.step)⟩

/-! ### impl_TourOk: function 41 -/
mutual
def impl_TourOk.j0 : Nat → List Int → List Int → Bool → Option (Bool)
 | 0, _, _, _ => none
 | k + 1, x0, x1, x19 => if x19 = true then (some false) else (impl_TourOk.l0 k x0 x1 x1 (x1.length : Int) 0)
def impl_TourOk.l0 : Nat → List Int → List Int → List Int → Int → Int → Option (Bool)
 | 0, _, _, _, _, _ => none
 | k + 1, x0, x1, x20, x21, x22 => if x22 < x21 then (if 0 ≤ x22 then (if x22 < (x20.length : Int) then (if (rd x20 x22) < 0 then (some false) else (if (rd x20 x22) ≥ (x0.length : Int) then (some false) else (if x22 > 0 then (if 0 ≤ (wrap64 (x22 - 1)) then (if (wrap64 (x22 - 1)) < (x1.length : Int) then (if 0 ≤ (rd x1 (wrap64 (x22 - 1))) then (if (rd x1 (wrap64 (x22 - 1))) < (x0.length : Int) then (if 0 ≤ (rd x20 x22) then (if (Go.bits .and .i64 (shr .i64 (rd x0 (rd x1 (wrap64 (x22 - 1)))) (rd x20 x22)) 1) = 0 then (some false) else (impl_TourOk.l0 k x0 x1 x20 x21 (wrap64 (x22 + 1)))) else (none)) else (none)) else (none)) else (none)) else (none)) else (impl_TourOk.l0 k x0 x1 x20 x21 (wrap64 (x22 + 1)))))) else (none)) else (none)) else (some true)
end
def impl_TourOk.f (k : Nat) (l0 : List Int) (l1 : List Int) : Option (Bool) := (impl_NetOk.f k l0).bind fun t248 => (if t248 = true then (if (l1.length : Int) < 1 then (impl_TourOk.j0 k l0 l1 true) else (impl_TourOk.j0 k l0 l1 (decide ((l1.length : Int) > 12)))) else (impl_TourOk.j0 k l0 l1 true))
theorem impl_TourOk.mono_l : ∀ k, (∀ y0 y1 y2, LeO (impl_TourOk.j0 k y0 y1 y2) (impl_TourOk.j0 (k + 1) y0 y1 y2)) ∧ (∀ y0 y1 y2 y3 y4, LeO (impl_TourOk.l0 k y0 y1 y2 y3 y4) (impl_TourOk.l0 (k + 1) y0 y1 y2 y3 y4))
 | 0 => ⟨fun _ _ _ r h => by simp [impl_TourOk.j0] at h, fun _ _ _ _ _ r h => by simp [impl_TourOk.l0] at h⟩
 | k + 1 => by
  obtain ⟨ih0, ih1⟩ := impl_TourOk.mono_l k
  refine ⟨?_, ?_⟩
  ·intro y0 y1 y2
   unfold impl_TourOk.j0
   repeat' first|(with_reducible first|exact ih0 _ _ _|exact ih1 _ _ _ _ _|exact impl_NetOk.mono _ _|exact LeO.refl _|exact LeO.none _|refine LeO.ite ?_ ?_|refine LeO.bind ?_ (fun _ => ?_))|exact ih0 _ _ _|exact ih1 _ _ _ _ _|exact impl_NetOk.mono _ _|exact LeO.none _|refine LeO.ite ?_ ?_|refine LeO.bind ?_ (fun _ => ?_)
  ·intro y0 y1 y2 y3 y4
   unfold impl_TourOk.l0
   repeat' first|(with_reducible first|exact ih0 _ _ _|exact ih1 _ _ _ _ _|exact impl_NetOk.mono _ _|exact LeO.refl _|exact LeO.none _|refine LeO.ite ?_ ?_|refine LeO.bind ?_ (fun _ => ?_))|exact ih0 _ _ _|exact ih1 _ _ _ _ _|exact impl_NetOk.mono _ _|exact LeO.none _|refine LeO.ite ?_ ?_|refine LeO.bind ?_ (fun _ => ?_)
theorem impl_TourOk.mono : ∀ a0 a1 k, LeO (impl_TourOk.f k a0 a1) (impl_TourOk.f (k + 1) a0 a1) := by
 intro a0 a1 k
 obtain ⟨ih0, ih1⟩ := impl_TourOk.mono_l k
 unfold impl_TourOk.f
 repeat' first|(with_reducible first|exact ih0 _ _ _|exact ih1 _ _ _ _ _|exact impl_NetOk.mono _ _|exact LeO.refl _|exact LeO.none _|refine LeO.ite ?_ ?_|refine LeO.bind ?_ (fun _ => ?_))|exact ih0 _ _ _|exact ih1 _ _ _ _ _|exact impl_NetOk.mono _ _|exact LeO.none _|refine LeO.ite ?_ ?_|refine LeO.bind ?_ (fun _ => ?_)
set_option maxHeartbeats 8000000 in
set_option maxRecDepth 100000 in
theorem impl_TourOk.calls (k : Nat) (A0 : Option Addr) (c0 : Nat) (l0 : List Int) (A1 : Option Addr) (c1 : Nat) (l1 : List Int) (r : Bool) (w : World) (hr0 : Kd.C (Kd.int .i64) w A0 l0.length l0) (hc0 : l0.length ≤ c0) (hr1 : Kd.C (Kd.int .i64) w A1 l1.length l1) (hc1 : l1.length ≤ c1) (h : impl_TourOk.f k l0 l1 = some r) :
  Calls Try.prog 41 #[.slice A0 l0.length c0, .slice A1 l1.length c1] w fun e w' => e = .returned (.bool r) ∧ Drawn0 w w' := by
 have HR0 := Aside0.mk hr0
 have HC0 := Aside0.mk hc0
 clear hr0 hc0
 have HR1 := Aside0.mk hr1
 have HC1 := Aside0.mk hc1
 clear hr1 hc1
 have H : ((impl_NetOk.f k l0).bind fun t248 => (if t248 = true then (if (l1.length : Int) < 1 then (impl_TourOk.j0 k l0 l1 true) else (impl_TourOk.j0 k l0 l1 (decide ((l1.length : Int) > 12)))) else (impl_TourOk.j0 k l0 l1 true))) = some r := h
 clear h
 have HC3 := Aside0.mk H
 clear H
 go_enter Try.func41, Try.ntmps41
 go_upto_region 1 with (fail)
 go_cut [19] (fun v19 wc => ∃ (kq : Nat) (x19_2 : Bool), v19 = .bool x19_2 ∧ Aside0 (impl_TourOk.j0 kq l0 l1 x19_2 = some r) ∧ Aside0 (kq ≤ k) ∧ Drawn0 w wc)
 case first =>
  have H := HC3.out
  clear HC3
  replace H := Option.bind_eq_some_iff.mp H
  obtain ⟨t248, A40, H⟩ := H
  replace H : (if t248 = true then (if (l1.length : Int) < 1 then (impl_TourOk.j0 k l0 l1 true) else (impl_TourOk.j0 k l0 l1 (decide ((l1.length : Int) > 12)))) else (impl_TourOk.j0 k l0 l1 true)) = some r := H
  have A4 := Aside0.mk A40
  clear A40
  by_cases c5 : t248 = true
  ·subst c5
   have H1 : (if (l1.length : Int) < 1 then (impl_TourOk.j0 k l0 l1 true) else (impl_TourOk.j0 k l0 l1 (decide ((l1.length : Int) > 12)))) = some r := by rw [if_pos rfl] at H; exact H
   clear H
   have H := H1
   clear H1
   by_cases c6 : (l1.length : Int) < 1
   ·rw [if_pos c6] at H
    have c6b0 : decide ((l1.length : Int) < 1) = true := decide_eq_true c6
    have c6b1 : decide (l1.length < 1) = true := decide_eq_true (by omega)
    clear c6
    (first|rw [c6b0]|(simp only [i64_w, i32_w]; rw [c6b0])|skip)
    have H' := Aside0.mk H
    clear H
    go_wp2_with (first|((with_reducible refine gate_callee (f:=44) rfl ?_);refine goesL_ (some 8) rfl rfl Try.func44 (by kernel_rfl) rfl #[.slice A0 l0.length c0] rfl (by (try simp only [List.map_toArray,List.map_cons,List.map_nil]);first|done|rfl|(simp only [List.length_drop,List.length_take];rfl)) ?_;(with_reducible refine (impl_NetOk.calls k _ _ l0 true _ ?side1 ?side2 A4.out).mono ?_);(case side1 => repeat (first|exact HR0.out|(with_reducible first|refine cA ?_ _|refine cN ?_ _|refine cD ?_)));(case side2 => exact HC0.out);rintro e w' ⟨rfl,⟨nd,rfl⟩⟩;refine ⟨_,rfl,?_⟩))
    go_meet
    case rel => exact ⟨_, (true), (by first|rfl|(simp; done)|(simp [*]; done)), H', ⟨by first|omega|exact Nat.le_refl _⟩, by repeat (first|exact Drawn0.refl _|apply Drawn0.step)⟩
   ·rw [if_neg c6] at H
    have c6b0 : decide ((l1.length : Int) < 1) = false := decide_eq_false c6
    have c6b1 : decide (l1.length < 1) = false := decide_eq_false (by omega)
    clear c6
    (first|rw [c6b0]|(simp only [i64_w, i32_w]; rw [c6b0])|skip)
    have H' := Aside0.mk H
    clear H
    go_wp2_with (first|((with_reducible refine gate_callee (f:=44) rfl ?_);refine goesL_ (some 8) rfl rfl Try.func44 (by kernel_rfl) rfl #[.slice A0 l0.length c0] rfl (by (try simp only [List.map_toArray,List.map_cons,List.map_nil]);first|done|rfl|(simp only [List.length_drop,List.length_take];rfl)) ?_;(with_reducible refine (impl_NetOk.calls k _ _ l0 true _ ?side1 ?side2 A4.out).mono ?_);(case side1 => repeat (first|exact HR0.out|(with_reducible first|refine cA ?_ _|refine cN ?_ _|refine cD ?_)));(case side2 => exact HC0.out);rintro e w' ⟨rfl,⟨nd,rfl⟩⟩;refine ⟨_,rfl,?_⟩))
    go_meet
    case rel => exact ⟨_, (decide ((l1.length : Int) > 12)), (by first|rfl|(simp; done)|(simp [*]; done)), H', ⟨by first|omega|exact Nat.le_refl _⟩, by repeat (first|exact Drawn0.refl _|apply Drawn0.step)⟩
  ·replace c5 := Bool.eq_false_iff.mpr c5
   subst c5
   have H1 : (impl_TourOk.j0 k l0 l1 true) = some r := by rw [if_neg (show ¬ (false = true) by decide)] at H; exact H
   clear H
   have H := H1
   clear H1
   have H' := Aside0.mk H
   clear H
   go_wp2_with (first|((with_reducible refine gate_callee (f:=44) rfl ?_);refine goesL_ (some 8) rfl rfl Try.func44 (by kernel_rfl) rfl #[.slice A0 l0.length c0] rfl (by (try simp only [List.map_toArray,List.map_cons,List.map_nil]);first|done|rfl|(simp only [List.length_drop,List.length_take];rfl)) ?_;(with_reducible refine (impl_NetOk.calls k _ _ l0 false _ ?side1 ?side2 A4.out).mono ?_);(case side1 => repeat (first|exact HR0.out|(with_reducible first|refine cA ?_ _|refine cN ?_ _|refine cD ?_)));(case side2 => exact HC0.out);rintro e w' ⟨rfl,⟨nd,rfl⟩⟩;refine ⟨_,rfl,?_⟩))
   go_meet
   case rel => exact ⟨_, (true), (by first|rfl|(simp; done)|(simp [*]; done)), H', ⟨by first|omega|exact Nat.le_refl _⟩, by repeat (first|exact Drawn0.refl _|apply Drawn0.step)⟩
 case rest =>
  clear HC3
  try clear c1
  try clear p2
  try clear c4
  try clear c5
  try clear c6
  try clear c6b0
  try clear c6b1
  obtain ⟨kq, x19_2, rfl, HA, HJ2, ⟨mc2, rfl⟩⟩ := hcut
  cases kq with
  | zero => exact absurd HA.out (by simp [impl_TourOk.j0])
  | succ kj2 =>
   have H := HA.out
   clear HA
   simp only [impl_TourOk.j0] at H
   by_cases c7 : x19_2 = true
   ·subst c7
    have H1 : (some false) = some r := by rw [if_pos rfl] at H; exact H
    clear H
    have H := H1
    clear H1
    obtain rfl := Option.some.inj H
    go_wp2
    go_ret
    exact ⟨by first|rfl|(simp; done)|(simp [*]; done), by repeat (first|exact Drawn0.refl _|apply Drawn0.step)⟩
   ·replace c7 := Bool.eq_false_iff.mpr c7
    subst c7
    have H1 : (impl_TourOk.l0 kj2 l0 l1 l1 (l1.length : Int) 0) = some r := by rw [if_neg (show ¬ (false = true) by decide)] at H; exact H
    clear H
    have H := H1
    clear H1
    have H' := Aside0.mk H
    clear H
    go_wp2
    go_loopg [22] kj2 (fun kq v22 w' => ∃ (x22_2 : Int), v22 = .int .i64 x22_2 ∧ Aside0 (impl_TourOk.l0 kq l0 l1 l1 (l1.length : Int) x22_2 = some r) ∧ Aside0 (kq ≤ kj2) ∧ Drawn0 w w')
    case atStart => exact ⟨(0), (by first|rfl|(simp; done)|(simp [*]; done)), H', ⟨Nat.le_refl _⟩, by repeat (first|exact Drawn0.refl _|apply Drawn0.step)⟩
    case round =>
     clear H'
     try clear c1
     try clear c2
     try clear p2
     try clear c4
     try clear c5
     try clear c6
     try clear c6b0
     try clear c6b1
     try clear c7
     try clear p2
     obtain ⟨x22_2, rfl, HA, HK2, ⟨m2, rfl⟩⟩ := hrel
     cases gk with
     | zero => exact absurd HA.out (by simp [impl_TourOk.l0])
     | succ k2 =>
      have H := HA.out
      clear HA
      simp only [impl_TourOk.l0] at H
      by_cases c8 : x22_2 < (l1.length : Int)
      ·rw [if_pos c8] at H
       have c8b0 : decide (x22_2 < (l1.length : Int)) = true := decide_eq_true c8
       clear c8
       by_cases c9 : 0 ≤ x22_2
       ·rw [if_pos c9] at H
        have c9b0 : decide (0 ≤ x22_2) = true := decide_eq_true c9
        clear c9
        by_cases c10 : x22_2 < (l1.length : Int)
        ·rw [if_pos c10] at H
         have c10b0 : decide (x22_2 < (l1.length : Int)) = true := decide_eq_true c10
         clear c10
         by_cases c11 : (rd l1 x22_2) < 0
         ·rw [if_pos c11] at H
          have c11b0 : decide ((rd l1 x22_2) < 0) = true := decide_eq_true c11
          clear c11
          obtain rfl := Option.some.inj H
          have p249 : 0 ≤ (x22_2 : Int) := oD (by first|(with_reducible assumption)|assumption)
          have q249 : x22_2 < (l1.length : Int) := oD (by first|(with_reducible assumption)|assumption)
          obtain ⟨ad249, e249, hx249_0⟩ := aI HR1.out x22_2 p249 q249
          cases e249
          replace p249 := eq_true p249
          replace q249 := eq_true q249
          go_wp2
          go_ret
          exact ⟨by first|rfl|(simp; done)|(simp [*]; done), by repeat (first|exact Drawn0.refl _|apply Drawn0.step)⟩
         ·rw [if_neg c11] at H
          have c11b0 : decide ((rd l1 x22_2) < 0) = false := decide_eq_false c11
          clear c11
          by_cases c12 : (rd l1 x22_2) ≥ (l0.length : Int)
          ·rw [if_pos c12] at H
           have c12b0 : decide ((l0.length : Int) ≤ (rd l1 x22_2)) = true := decide_eq_true c12
           clear c12
           obtain rfl := Option.some.inj H
           have p249 : 0 ≤ (x22_2 : Int) := oD (by first|(with_reducible assumption)|assumption)
           have q249 : x22_2 < (l1.length : Int) := oD (by first|(with_reducible assumption)|assumption)
           obtain ⟨ad249, e249, hx249_0⟩ := aI HR1.out x22_2 p249 q249
           cases e249
           replace p249 := eq_true p249
           replace q249 := eq_true q249
           go_wp2
           go_ret
           exact ⟨by first|rfl|(simp; done)|(simp [*]; done), by repeat (first|exact Drawn0.refl _|apply Drawn0.step)⟩
          ·rw [if_neg c12] at H
           have c12b0 : decide ((l0.length : Int) ≤ (rd l1 x22_2)) = false := decide_eq_false c12
           clear c12
           by_cases c13 : x22_2 > 0
           ·rw [if_pos c13] at H
            have c13b0 : decide (0 < x22_2) = true := decide_eq_true c13
            clear c13
            obtain ⟨ji14, hji14⟩ : ∃ j_ : Int, (wrap64 (x22_2 - 1)) = j_ := ⟨_, rfl⟩
            replace H : (if 0 ≤ (ji14) then (if (ji14) < (l1.length : Int) then (if 0 ≤ (rd l1 (ji14)) then (if (rd l1 (ji14)) < (l0.length : Int) then (if 0 ≤ (rd l1 x22_2) then (if (Go.bits .and .i64 (shr .i64 (rd l0 (rd l1 (ji14))) (rd l1 x22_2)) 1) = 0 then (some false) else (impl_TourOk.l0 k2 l0 l1 l1 (l1.length : Int) (wrap64 (x22_2 + 1)))) else (none)) else (none)) else (none)) else (none)) else (none)) = some r := by first|(rw [hji14] at H; exact H)|(simp only [hji14] at H ⊢; exact H)
            have hji14w : (IntKind.i64.wrap (x22_2 - 1)) = ji14 := (i64_w _).trans hji14
            by_cases c15 : 0 ≤ (ji14)
            ·rw [if_pos c15] at H
             have c15b0 : decide (0 ≤ (ji14)) = true := decide_eq_true c15
             clear c15
             by_cases c16 : (ji14) < (l1.length : Int)
             ·rw [if_pos c16] at H
              have c16b0 : decide ((ji14) < (l1.length : Int)) = true := decide_eq_true c16
              clear c16
              by_cases c17 : 0 ≤ (rd l1 (ji14))
              ·rw [if_pos c17] at H
               have c17b0 : decide (0 ≤ (rd l1 (ji14))) = true := decide_eq_true c17
               clear c17
               by_cases c18 : (rd l1 (ji14)) < (l0.length : Int)
               ·rw [if_pos c18] at H
                have c18b0 : decide ((rd l1 (ji14)) < (l0.length : Int)) = true := decide_eq_true c18
                clear c18
                by_cases c19 : 0 ≤ (rd l1 x22_2)
                ·rw [if_pos c19] at H
                 have c19b0 := eq_true c19
                 have c19b1 : decide (0 ≤ (rd l1 x22_2)) = true := decide_eq_true c19
                 clear c19
                 obtain ⟨ji20, hji20⟩ : ∃ j_ : Int, (shr .i64 (rd l0 (rd l1 (ji14))) (rd l1 x22_2)) = j_ := ⟨_, rfl⟩
                 replace H : (if (Go.bits .and .i64 (ji20) 1) = 0 then (some false) else (impl_TourOk.l0 k2 l0 l1 l1 (l1.length : Int) (wrap64 (x22_2 + 1)))) = some r := by first|(rw [hji20] at H; exact H)|(simp only [hji20] at H ⊢; exact H)
                 have hji20_ : ((rd l0 (rd l1 (ji14))) / 2 ^ min (rd l1 x22_2).toNat 64) = ji20 := hji20
                 have hji20z : (rd l1 x22_2) ≤ 64 → ((rd l0 (rd l1 (ji14))) / 2 ^ (rd l1 x22_2).toNat) = ji20 := shr_small hji20
                 by_cases c21 : (Go.bits .and .i64 (ji20) 1) = 0
                 ·rw [if_pos c21] at H
                  have c21b0 : ((Go.bits .and .i64 (ji20) 1) == 0) = true := beq_iff_eq.mpr c21
                  have c21b1 : ((Go.bits .and .i64 (ji20) 1) != 0) = false := bne_eq_false_iff_eq.mpr c21
                  clear c21
                  obtain rfl := Option.some.inj H
                  have p249 : 0 ≤ (x22_2 : Int) := oD (by first|(with_reducible assumption)|assumption)
                  have q249 : x22_2 < (l1.length : Int) := oD (by first|(with_reducible assumption)|assumption)
                  obtain ⟨ad249, e249, hx249_0⟩ := aI HR1.out x22_2 p249 q249
                  cases e249
                  replace p249 := eq_true p249
                  replace q249 := eq_true q249
                  have p250 : 0 ≤ ((ji14) : Int) := oD (by first|(with_reducible assumption)|assumption)
                  have q250 : (ji14) < (l1.length : Int) := oD (by first|(with_reducible assumption)|assumption)
                  obtain ⟨ad250, e250, hx250_0⟩ := aI HR1.out (ji14) p250 q250
                  obtain rfl : ad249 = ad250 := (by injection e250)
                  replace p250 := eq_true p250
                  replace q250 := eq_true q250
                  have p251 : 0 ≤ ((rd l1 (ji14)) : Int) := oD (by first|(with_reducible assumption)|assumption)
                  have q251 : (rd l1 (ji14)) < (l0.length : Int) := oD (by first|(with_reducible assumption)|assumption)
                  obtain ⟨ad251, e251, hx251_0⟩ := aI HR0.out (rd l1 (ji14)) p251 q251
                  cases e251
                  replace p251 := eq_true p251
                  replace q251 := eq_true q251
                  go_wp2
                  go_ret
                  exact ⟨by first|rfl|(simp; done)|(simp only [← hji14, ← hji20] <;> (first|rfl|simp))|(simp [*]; done), by repeat (first|exact Drawn0.refl _|apply Drawn0.step)⟩
                 ·rw [if_neg c21] at H
                  have c21b0 : ((Go.bits .and .i64 (ji20) 1) == 0) = false := beq_eq_false_iff_ne.mpr c21
                  have c21b1 : ((Go.bits .and .i64 (ji20) 1) != 0) = true := bne_iff_ne.mpr c21
                  have H' := Aside0.mk H
                  clear H
                  have p249 : 0 ≤ (x22_2 : Int) := oD (by first|(with_reducible assumption)|assumption)
                  have q249 : x22_2 < (l1.length : Int) := oD (by first|(with_reducible assumption)|assumption)
                  obtain ⟨ad249, e249, hx249_0⟩ := aI HR1.out x22_2 p249 q249
                  cases e249
                  replace p249 := eq_true p249
                  replace q249 := eq_true q249
                  have p250 : 0 ≤ ((ji14) : Int) := oD (by first|(with_reducible assumption)|assumption)
                  have q250 : (ji14) < (l1.length : Int) := oD (by first|(with_reducible assumption)|assumption)
                  obtain ⟨ad250, e250, hx250_0⟩ := aI HR1.out (ji14) p250 q250
                  obtain rfl : ad249 = ad250 := (by injection e250)
                  replace p250 := eq_true p250
                  replace q250 := eq_true q250
                  have p251 : 0 ≤ ((rd l1 (ji14)) : Int) := oD (by first|(with_reducible assumption)|assumption)
                  have q251 : (rd l1 (ji14)) < (l0.length : Int) := oD (by first|(with_reducible assumption)|assumption)
                  obtain ⟨ad251, e251, hx251_0⟩ := aI HR0.out (rd l1 (ji14)) p251 q251
                  cases e251
                  replace p251 := eq_true p251
                  replace q251 := eq_true q251
                  go_wp2
                  go_roundg k2
                  case measure => have := HJ2.out; have := HK2.out; omega
                  case rel => exact ⟨(wrap64 (x22_2 + 1)), (by first|rfl|(simp; done)|(simp [*]; done)), H', ⟨by have := HJ2.out; have := HK2.out; omega⟩, by repeat (first|exact Drawn0.refl _|apply Drawn0.step)⟩
                ·rw [if_neg c19] at H
                 exact absurd H (by simp)
               ·rw [if_neg c18] at H
                exact absurd H (by simp)
              ·rw [if_neg c17] at H
               exact absurd H (by simp)
             ·rw [if_neg c16] at H
              exact absurd H (by simp)
            ·rw [if_neg c15] at H
             exact absurd H (by simp)
           ·rw [if_neg c13] at H
            have c13b0 : decide (0 < x22_2) = false := decide_eq_false c13
            clear c13
            have H' := Aside0.mk H
            clear H
            have p249 : 0 ≤ (x22_2 : Int) := oD (by first|(with_reducible assumption)|assumption)
            have q249 : x22_2 < (l1.length : Int) := oD (by first|(with_reducible assumption)|assumption)
            obtain ⟨ad249, e249, hx249_0⟩ := aI HR1.out x22_2 p249 q249
            cases e249
            replace p249 := eq_true p249
            replace q249 := eq_true q249
            go_wp2
            go_roundg k2
            case measure => have := HJ2.out; have := HK2.out; omega
            case rel => exact ⟨(wrap64 (x22_2 + 1)), (by first|rfl|(simp; done)|(simp [*]; done)), H', ⟨by have := HJ2.out; have := HK2.out; omega⟩, by repeat (first|exact Drawn0.refl _|apply Drawn0.step)⟩
        ·rw [if_neg c10] at H
         exact absurd H (by simp)
       ·rw [if_neg c9] at H
        exact absurd H (by simp)
      ·rw [if_neg c8] at H
       have c8b0 : decide (x22_2 < (l1.length : Int)) = false := decide_eq_false c8
       clear c8
       obtain rfl := Option.some.inj H
       go_wp2
       go_ret
       exact ⟨by first|rfl|(simp; done)|(simp [*]; done), by repeat (first|exact Drawn0.refl _|apply Drawn0.step)⟩

end Go.Proofs.Ytcjjiajcjooccaa.PFnClimbRound
