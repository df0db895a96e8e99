-- Written by a program of this session (the kit's print, changed).
import Derived.Test.YtcjjiajcjooccaaSq
import Derived.Test.YtcjjiajcjooccaaPFnClimbRoundx0
import Derived.Test.YtcjjiajcjooccaaPFnClimbRoundx5
namespace Go.Proofs.Ytcjjiajcjooccaa.PFnClimbRound
open Go.RowKit Go.Proofs.YtcjjiajcjooccaaW.PrintWords Go.Proofs.YtcjjiajcjooccaaW.PrintLast Go.Proofs.YtcjjiajcjooccaaW.PrintMore
attribute [local go_sem] max2_int min2_int max_two min_two max_three min_three max_four min_four   -- for this text's walks alone
set_option linter.unusedVariables false
set_option linter.unusedSimpArgs false

/-! ### impl_StateOk: function 57 -/
def impl_StateOk.l0 : Nat → Int → List Int → List Int → Int → Int → Option (Bool)
 | 0, _, _, _, _, _ => none
 | k + 1, x0, x1, x7, x8, x9 => if x9 < x8 then (if 0 ≤ x9 then (if x9 < (x7.length : Int) then (if (rd x7 x9) < 0 then (some false) else (if (rd x7 x9) ≥ x0 then (some false) else (impl_StateOk.l0 k x0 x1 x7 x8 (wrap64 (x9 + 1))))) else (none)) else (none)) else (if x0 ≥ 3 then (if x0 ≤ 5 then (if (x1.length : Int) ≥ 1 then (some (decide ((x1.length : Int) ≤ 6))) else (some false)) else (some false)) else (some false))
def impl_StateOk.f (k : Nat) (a0 : Int) (l1 : List Int) : Option (Bool) := impl_StateOk.l0 k a0 l1 l1 (l1.length : Int) 0
theorem impl_StateOk.mono_l : ∀ k, (∀ y0 y1 y2 y3 y4, LeO (impl_StateOk.l0 k y0 y1 y2 y3 y4) (impl_StateOk.l0 (k + 1) y0 y1 y2 y3 y4))
 | 0 => fun _ _ _ _ _ r h => by simp [impl_StateOk.l0] at h
 | k + 1 => by
  have ih0 := impl_StateOk.mono_l k
  ·intro y0 y1 y2 y3 y4
   unfold impl_StateOk.l0
   repeat' first|(with_reducible first|exact ih0 _ _ _ _ _|exact LeO.refl _|exact LeO.none _|refine LeO.ite ?_ ?_|refine LeO.bind ?_ (fun _ => ?_))|exact ih0 _ _ _ _ _|exact LeO.none _|refine LeO.ite ?_ ?_|refine LeO.bind ?_ (fun _ => ?_)
theorem impl_StateOk.mono : ∀ a0 a1 k, LeO (impl_StateOk.f k a0 a1) (impl_StateOk.f (k + 1) a0 a1) := by
 intro a0 a1 k
 have ih0 := impl_StateOk.mono_l k
 unfold impl_StateOk.f
 repeat' first|(with_reducible first|exact ih0 _ _ _ _ _|exact LeO.refl _|exact LeO.none _|refine LeO.ite ?_ ?_|refine LeO.bind ?_ (fun _ => ?_))|exact ih0 _ _ _ _ _|exact LeO.none _|refine LeO.ite ?_ ?_|refine LeO.bind ?_ (fun _ => ?_)
set_option maxHeartbeats 8000000 in
set_option maxRecDepth 100000 in
theorem impl_StateOk.calls (k : Nat) (a0 : Int) (A1 : Option Addr) (c1 : Nat) (l1 : List Int) (r : Bool) (w : World) (hr1 : Kd.C (Kd.int .i64) w A1 l1.length l1) (hc1 : l1.length ≤ c1) (h : impl_StateOk.f k a0 l1 = some r) :
  Calls Try.prog 57 #[.int .i64 a0, .slice A1 l1.length c1] w fun e w' => e = .returned (.bool r) ∧ Drawn0 w w' := by
 have HR1 := Aside0.mk hr1
 have HC1 := Aside0.mk hc1
 clear hr1 hc1
 have H : (impl_StateOk.l0 k a0 l1 l1 (l1.length : Int) 0) = some r := h
 clear h
 have H' := Aside0.mk H
 clear H
 go_enter Try.func57, Try.ntmps57
 go_wp2
 go_loopg [9] k (fun kq v9 w' => ∃ (x9_1 : Int), v9 = .int .i64 x9_1 ∧ Aside0 (impl_StateOk.l0 kq a0 l1 l1 (l1.length : Int) x9_1 = some r) ∧ Aside0 (kq ≤ k) ∧ Drawn0 w w')
 case atStart => exact ⟨(0), (by first|rfl|(simp; done)|(simp [*]; done)), H', ⟨Nat.le_refl _⟩, by repeat (first|exact Drawn0.refl _|apply Drawn0.step)⟩
 case round =>
  clear H'
  try clear c1
  try clear p2
  obtain ⟨x9_1, rfl, HA, HK1, ⟨m1, rfl⟩⟩ := hrel
  cases gk with
  | zero => exact absurd HA.out (by simp [impl_StateOk.l0])
  | succ k1 =>
   have H := HA.out
   clear HA
   simp only [impl_StateOk.l0] at H
   by_cases c3 : x9_1 < (l1.length : Int)
   ·rw [if_pos c3] at H
    have c3b0 : decide (x9_1 < (l1.length : Int)) = true := decide_eq_true c3
    clear c3
    by_cases c4 : 0 ≤ x9_1
    ·rw [if_pos c4] at H
     have c4b0 : decide (0 ≤ x9_1) = true := decide_eq_true c4
     clear c4
     by_cases c5 : x9_1 < (l1.length : Int)
     ·rw [if_pos c5] at H
      have c5b0 : decide (x9_1 < (l1.length : Int)) = true := decide_eq_true c5
      clear c5
      by_cases c6 : (rd l1 x9_1) < 0
      ·rw [if_pos c6] at H
       have c6b0 : decide ((rd l1 x9_1) < 0) = true := decide_eq_true c6
       clear c6
       obtain rfl := Option.some.inj H
       have p252 : 0 ≤ (x9_1 : Int) := oD (by first|(with_reducible assumption)|assumption)
       have q252 : x9_1 < (l1.length : Int) := oD (by first|(with_reducible assumption)|assumption)
       obtain ⟨ad252, e252, hx252_0⟩ := aI HR1.out x9_1 p252 q252
       cases e252
       replace p252 := eq_true p252
       replace q252 := eq_true q252
       go_wp2
       go_ret
       exact ⟨by first|rfl|(simp; done)|(simp [*]; done), by repeat (first|exact Drawn0.refl _|apply Drawn0.step)⟩
      ·rw [if_neg c6] at H
       have c6b0 : decide ((rd l1 x9_1) < 0) = false := decide_eq_false c6
       clear c6
       by_cases c7 : (rd l1 x9_1) ≥ a0
       ·rw [if_pos c7] at H
        have c7b0 : decide (a0 ≤ (rd l1 x9_1)) = true := decide_eq_true c7
        clear c7
        obtain rfl := Option.some.inj H
        have p252 : 0 ≤ (x9_1 : Int) := oD (by first|(with_reducible assumption)|assumption)
        have q252 : x9_1 < (l1.length : Int) := oD (by first|(with_reducible assumption)|assumption)
        obtain ⟨ad252, e252, hx252_0⟩ := aI HR1.out x9_1 p252 q252
        cases e252
        replace p252 := eq_true p252
        replace q252 := eq_true q252
        go_wp2
        go_ret
        exact ⟨by first|rfl|(simp; done)|(simp [*]; done), by repeat (first|exact Drawn0.refl _|apply Drawn0.step)⟩
       ·rw [if_neg c7] at H
        have c7b0 : decide (a0 ≤ (rd l1 x9_1)) = false := decide_eq_false c7
        clear c7
        have H' := Aside0.mk H
        clear H
        have p252 : 0 ≤ (x9_1 : Int) := oD (by first|(with_reducible assumption)|assumption)
        have q252 : x9_1 < (l1.length : Int) := oD (by first|(with_reducible assumption)|assumption)
        obtain ⟨ad252, e252, hx252_0⟩ := aI HR1.out x9_1 p252 q252
        cases e252
        replace p252 := eq_true p252
        replace q252 := eq_true q252
        go_wp2
        go_roundg k1
        case measure => have := HK1.out; omega
        case rel => exact ⟨(wrap64 (x9_1 + 1)), (by first|rfl|(simp; done)|(simp [*]; done)), H', ⟨by have := HK1.out; omega⟩, by repeat (first|exact Drawn0.refl _|apply Drawn0.step)⟩
     ·rw [if_neg c5] at H
      exact absurd H (by simp)
    ·rw [if_neg c4] at H
     exact absurd H (by simp)
   ·rw [if_neg c3] at H
    have c3b0 : decide (x9_1 < (l1.length : Int)) = false := decide_eq_false c3
    clear c3
    by_cases c8 : a0 ≥ 3
    ·rw [if_pos c8] at H
     have c8b0 : decide (3 ≤ a0) = true := decide_eq_true c8
     clear c8
     by_cases c9 : a0 ≤ 5
     ·rw [if_pos c9] at H
      have c9b0 : decide (a0 ≤ 5) = true := decide_eq_true c9
      clear c9
      by_cases c10 : (l1.length : Int) ≥ 1
      ·rw [if_pos c10] at H
       have c10b0 : decide (1 ≤ (l1.length : Int)) = true := decide_eq_true c10
       have c10b1 : decide (1 ≤ l1.length) = true := decide_eq_true (by omega)
       clear c10
       obtain rfl := Option.some.inj H
       go_wp2
       go_ret
       exact ⟨by first|rfl|(simp; done)|(simp [*]; done), by repeat (first|exact Drawn0.refl _|apply Drawn0.step)⟩
      ·rw [if_neg c10] at H
       have c10b0 : decide (1 ≤ (l1.length : Int)) = false := decide_eq_false c10
       have c10b1 : decide (1 ≤ l1.length) = false := decide_eq_false (by omega)
       clear c10
       obtain rfl := Option.some.inj H
       go_wp2
       go_ret
       exact ⟨by first|rfl|(simp; done)|(simp [*]; done), by repeat (first|exact Drawn0.refl _|apply Drawn0.step)⟩
     ·rw [if_neg c9] at H
      have c9b0 : decide (a0 ≤ 5) = false := decide_eq_false c9
      clear c9
      obtain rfl := Option.some.inj H
      go_wp2
      go_ret
      exact ⟨by first|rfl|(simp; done)|(simp [*]; done), by repeat (first|exact Drawn0.refl _|apply Drawn0.step)⟩
    ·rw [if_neg c8] at H
     have c8b0 : decide (3 ≤ a0) = false := decide_eq_false c8
     clear c8
     obtain rfl := Option.some.inj H
     go_wp2
     go_ret
     exact ⟨by first|rfl|(simp; done)|(simp [*]; done), by repeat (first|exact Drawn0.refl _|apply Drawn0.step)⟩

/-! ### impl_asked: function 42 -/
def impl_asked.f (k : Nat) (l0 : List Int) (a1 : Int) (l2 : List Int) : Option (Bool) := (impl_NetOk.f k l0).bind fun t253 => (if t253 = true then ((impl_StateOk.f k a1 l2).bind fun t254 => (if t254 = true then (some ((l0.length : Int) == (l2.length : Int))) else (some false))) else (some false))
theorem impl_asked.mono : ∀ a0 a1 a2 k, LeO (impl_asked.f k a0 a1 a2) (impl_asked.f (k + 1) a0 a1 a2) := by
 intro a0 a1 a2 k
 unfold impl_asked.f
 repeat' first|(with_reducible first|exact impl_NetOk.mono _ _|exact impl_StateOk.mono _ _ _|exact LeO.refl _|exact LeO.none _|refine LeO.ite ?_ ?_|refine LeO.bind ?_ (fun _ => ?_))|exact impl_NetOk.mono _ _|exact impl_StateOk.mono _ _ _|exact LeO.none _|refine LeO.ite ?_ ?_|refine LeO.bind ?_ (fun _ => ?_)
set_option maxHeartbeats 8000000 in
set_option maxRecDepth 100000 in
theorem impl_asked.calls (k : Nat) (A0 : Option Addr) (c0 : Nat) (l0 : List Int) (a1 : Int) (A2 : Option Addr) (c2 : Nat) (l2 : List Int) (r : Bool) (w : World) (hr0 : Kd.C (Kd.int .i64) w A0 l0.length l0) (hc0 : l0.length ≤ c0) (hr2 : Kd.C (Kd.int .i64) w A2 l2.length l2) (hc2 : l2.length ≤ c2) (h : impl_asked.f k l0 a1 l2 = some r) :
  Calls Try.prog 42 #[.slice A0 l0.length c0, .int .i64 a1, .slice A2 l2.length c2] w fun e w' => e = .returned (.bool r) ∧ Drawn0 w w' := by
 have HR0 := Aside0.mk hr0
 have HC0 := Aside0.mk hc0
 clear hr0 hc0
 have HR2 := Aside0.mk hr2
 have HC2 := Aside0.mk hc2
 clear hr2 hc2
 have H : ((impl_NetOk.f k l0).bind fun t253 => (if t253 = true then ((impl_StateOk.f k a1 l2).bind fun t254 => (if t254 = true then (some ((l0.length : Int) == (l2.length : Int))) else (some false))) else (some false))) = some r := h
 clear h
 replace H := Option.bind_eq_some_iff.mp H
 obtain ⟨t253, A40, H⟩ := H
 replace H : (if t253 = true then ((impl_StateOk.f k a1 l2).bind fun t254 => (if t254 = true then (some ((l0.length : Int) == (l2.length : Int))) else (some false))) else (some false)) = some r := H
 have A4 := Aside0.mk A40
 clear A40
 by_cases c5 : t253 = true
 ·subst c5
  have H1 : ((impl_StateOk.f k a1 l2).bind fun t254 => (if t254 = true then (some ((l0.length : Int) == (l2.length : Int))) else (some false))) = some r := by rw [if_pos rfl] at H; exact H
  clear H
  have H := H1
  clear H1
  replace H := Option.bind_eq_some_iff.mp H
  obtain ⟨t254, A60, H⟩ := H
  replace H : (if t254 = true then (some ((l0.length : Int) == (l2.length : Int))) else (some false)) = some r := H
  have A6 := Aside0.mk A60
  clear A60
  by_cases c7 : t254 = true
  ·subst c7
   have H1 : (some ((l0.length : Int) == (l2.length : Int))) = some r := by rw [if_pos rfl] at H; exact H
   clear H
   have H := H1
   clear H1
   obtain rfl := Option.some.inj H
   go_enter Try.func42, Try.ntmps42
   go_wp2_with (first|((with_reducible refine gate_callee (f:=44) rfl ?_);refine goesL_ (some 8) rfl rfl Try.func44 (by kernel_rfl) rfl #[.slice A0 l0.length c0] rfl (by (try simp only [List.map_toArray,List.map_cons,List.map_nil]);first|done|rfl|(simp only [List.length_drop,List.length_take];rfl)) ?_;(with_reducible refine (impl_NetOk.calls k _ _ l0 true _ ?side1 ?side2 A4.out).mono ?_);(case side1 => repeat (first|exact HR0.out|(with_reducible first|refine cA ?_ _|refine cN ?_ _|refine cD ?_)));(case side2 => exact HC0.out);rintro e w' ⟨rfl,⟨nd,rfl⟩⟩;refine ⟨_,rfl,?_⟩)|(go_at_call 57;(with_reducible refine (impl_StateOk.calls k a1 _ _ l2 true _ ?side1 ?side2 A6.out).mono ?_);(case side1 => repeat (first|exact HR2.out|(with_reducible first|refine cA ?_ _|refine cN ?_ _|refine cD ?_)));(case side2 => exact HC2.out);rintro e w' ⟨rfl,⟨nd,rfl⟩⟩))
   go_ret
   exact ⟨by first|rfl|(simp; done)|(simp [*]; done), by repeat (first|exact Drawn0.refl _|apply Drawn0.step)⟩
  ·replace c7 := Bool.eq_false_iff.mpr c7
   subst c7
   have H1 : (some false) = some r := by rw [if_neg (show ¬ (false = true) by decide)] at H; exact H
   clear H
   have H := H1
   clear H1
   obtain rfl := Option.some.inj H
   go_enter Try.func42, Try.ntmps42
   go_wp2_with (first|((with_reducible refine gate_callee (f:=44) rfl ?_);refine goesL_ (some 8) rfl rfl Try.func44 (by kernel_rfl) rfl #[.slice A0 l0.length c0] rfl (by (try simp only [List.map_toArray,List.map_cons,List.map_nil]);first|done|rfl|(simp only [List.length_drop,List.length_take];rfl)) ?_;(with_reducible refine (impl_NetOk.calls k _ _ l0 true _ ?side1 ?side2 A4.out).mono ?_);(case side1 => repeat (first|exact HR0.out|(with_reducible first|refine cA ?_ _|refine cN ?_ _|refine cD ?_)));(case side2 => exact HC0.out);rintro e w' ⟨rfl,⟨nd,rfl⟩⟩;refine ⟨_,rfl,?_⟩)|(go_at_call 57;(with_reducible refine (impl_StateOk.calls k a1 _ _ l2 false _ ?side1 ?side2 A6.out).mono ?_);(case side1 => repeat (first|exact HR2.out|(with_reducible first|refine cA ?_ _|refine cN ?_ _|refine cD ?_)));(case side2 => exact HC2.out);rintro e w' ⟨rfl,⟨nd,rfl⟩⟩))
   go_ret
   exact ⟨by first|rfl|(simp; done)|(simp [*]; done), by repeat (first|exact Drawn0.refl _|apply Drawn0.step)⟩
 ·replace c5 := Bool.eq_false_iff.mpr c5
  subst c5
  have H1 : (some false) = some r := by rw [if_neg (show ¬ (false = true) by decide)] at H; exact H
  clear H
  have H := H1
  clear H1
  obtain rfl := Option.some.inj H
  go_enter Try.func42, Try.ntmps42
  go_wp2_with (first|((with_reducible refine gate_callee (f:=44) rfl ?_);refine goesL_ (some 8) rfl rfl Try.func44 (by kernel_rfl) rfl #[.slice A0 l0.length c0] rfl (by (try simp only [List.map_toArray,List.map_cons,List.map_nil]);first|done|rfl|(simp only [List.length_drop,List.length_take];rfl)) ?_;(with_reducible refine (impl_NetOk.calls k _ _ l0 false _ ?side1 ?side2 A4.out).mono ?_);(case side1 => repeat (first|exact HR0.out|(with_reducible first|refine cA ?_ _|refine cN ?_ _|refine cD ?_)));(case side2 => exact HC0.out);rintro e w' ⟨rfl,⟨nd,rfl⟩⟩;refine ⟨_,rfl,?_⟩))
  go_ret
  exact ⟨by first|rfl|(simp; done)|(simp [*]; done), by repeat (first|exact Drawn0.refl _|apply Drawn0.step)⟩

/-! ### impl_rise: function 43 -/
def impl_rise.f (l0 : List Int) (a1 : Int) (a2 : Int) : Option (Int) := if 0 ≤ a2 then (if a2 < (l0.length : Int) then (if 0 ≤ a1 then (if a1 < (l0.length : Int) then (if (Int.tmod (wrap64 ((wrap64 ((rd l0 a2) - (rd l0 a1))) + 3)) 3) = 1 then (some 1) else (if (Int.tmod (wrap64 ((wrap64 ((rd l0 a2) - (rd l0 a1))) + 3)) 3) = 2 then (some (-1)) else (some 0))) else (none)) else (none)) else (none)) else (none)
set_option maxHeartbeats 8000000 in
set_option maxRecDepth 100000 in
theorem impl_rise.calls (A0 : Option Addr) (c0 : Nat) (l0 : List Int) (a1 : Int) (a2 : Int) (r : Int) (w : World) (hr0 : Kd.C (Kd.int .i64) w A0 l0.length l0) (hc0 : l0.length ≤ c0) (h : impl_rise.f l0 a1 a2 = some r) :
  Calls Try.prog 43 #[.slice A0 l0.length c0, .int .i64 a1, .int .i64 a2] w fun e w' => e = .returned (.int .i64 r) ∧ Drawn0 w w' := by
 have HR0 := Aside0.mk hr0
 have HC0 := Aside0.mk hc0
 clear hr0 hc0
 have H : (if 0 ≤ a2 then (if a2 < (l0.length : Int) then (if 0 ≤ a1 then (if a1 < (l0.length : Int) then (if (Int.tmod (wrap64 ((wrap64 ((rd l0 a2) - (rd l0 a1))) + 3)) 3) = 1 then (some 1) else (if (Int.tmod (wrap64 ((wrap64 ((rd l0 a2) - (rd l0 a1))) + 3)) 3) = 2 then (some (-1)) else (some 0))) else (none)) else (none)) else (none)) else (none)) = some r := h
 clear h
 by_cases c4 : 0 ≤ a2
 ·rw [if_pos c4] at H
  have c4b0 : decide (0 ≤ a2) = true := decide_eq_true c4
  clear c4
  by_cases c5 : a2 < (l0.length : Int)
  ·rw [if_pos c5] at H
   have c5b0 : decide (a2 < (l0.length : Int)) = true := decide_eq_true c5
   clear c5
   by_cases c6 : 0 ≤ a1
   ·rw [if_pos c6] at H
    have c6b0 : decide (0 ≤ a1) = true := decide_eq_true c6
    clear c6
    by_cases c7 : a1 < (l0.length : Int)
    ·rw [if_pos c7] at H
     have c7b0 : decide (a1 < (l0.length : Int)) = true := decide_eq_true c7
     clear c7
     by_cases c8 : (Int.tmod (wrap64 ((wrap64 ((rd l0 a2) - (rd l0 a1))) + 3)) 3) = 1
     ·rw [if_pos c8] at H
      have c8b0 : ((Int.tmod (wrap64 ((wrap64 ((rd l0 a2) - (rd l0 a1))) + 3)) 3) == 1) = true := beq_iff_eq.mpr c8
      have c8b1 : ((Int.tmod (wrap64 ((wrap64 ((rd l0 a2) - (rd l0 a1))) + 3)) 3) != 1) = false := bne_eq_false_iff_eq.mpr c8
      clear c8
      obtain rfl := Option.some.inj H
      have p255 : 0 ≤ (a2 : Int) := oD (by first|(with_reducible assumption)|assumption)
      have q255 : a2 < (l0.length : Int) := oD (by first|(with_reducible assumption)|assumption)
      obtain ⟨ad255, e255, hx255_0⟩ := aI HR0.out a2 p255 q255
      cases e255
      replace p255 := eq_true p255
      replace q255 := eq_true q255
      have p256 : 0 ≤ (a1 : Int) := oD (by first|(with_reducible assumption)|assumption)
      have q256 : a1 < (l0.length : Int) := oD (by first|(with_reducible assumption)|assumption)
      obtain ⟨ad256, e256, hx256_0⟩ := aI HR0.out a1 p256 q256
      obtain rfl : ad255 = ad256 := (by injection e256)
      replace p256 := eq_true p256
      replace q256 := eq_true q256
      go_enter Try.func43, Try.ntmps43
      go_wp2
      repeat (go_quiet (fail);try go_wp2)
      go_ret
      exact ⟨by first|rfl|(simp; done)|(simp [*]; done), by repeat (first|exact Drawn0.refl _|apply Drawn0.step)⟩
     ·rw [if_neg c8] at H
      have c8b0 : ((Int.tmod (wrap64 ((wrap64 ((rd l0 a2) - (rd l0 a1))) + 3)) 3) == 1) = false := beq_eq_false_iff_ne.mpr c8
      have c8b1 : ((Int.tmod (wrap64 ((wrap64 ((rd l0 a2) - (rd l0 a1))) + 3)) 3) != 1) = true := bne_iff_ne.mpr c8
      by_cases c9 : (Int.tmod (wrap64 ((wrap64 ((rd l0 a2) - (rd l0 a1))) + 3)) 3) = 2
      ·rw [if_pos c9] at H
       have c9b0 : ((Int.tmod (wrap64 ((wrap64 ((rd l0 a2) - (rd l0 a1))) + 3)) 3) == 2) = true := beq_iff_eq.mpr c9
       have c9b1 : ((Int.tmod (wrap64 ((wrap64 ((rd l0 a2) - (rd l0 a1))) + 3)) 3) != 2) = false := bne_eq_false_iff_eq.mpr c9
       clear c9
       obtain rfl := Option.some.inj H
       have p255 : 0 ≤ (a2 : Int) := oD (by first|(with_reducible assumption)|assumption)
       have q255 : a2 < (l0.length : Int) := oD (by first|(with_reducible assumption)|assumption)
       obtain ⟨ad255, e255, hx255_0⟩ := aI HR0.out a2 p255 q255
       cases e255
       replace p255 := eq_true p255
       replace q255 := eq_true q255
       have p256 : 0 ≤ (a1 : Int) := oD (by first|(with_reducible assumption)|assumption)
       have q256 : a1 < (l0.length : Int) := oD (by first|(with_reducible assumption)|assumption)
       obtain ⟨ad256, e256, hx256_0⟩ := aI HR0.out a1 p256 q256
       obtain rfl : ad255 = ad256 := (by injection e256)
       replace p256 := eq_true p256
       replace q256 := eq_true q256
       go_enter Try.func43, Try.ntmps43
       go_wp2
       repeat (go_quiet (fail);try go_wp2)
       go_ret
       exact ⟨by first|rfl|(simp; done)|(simp [*]; done), by repeat (first|exact Drawn0.refl _|apply Drawn0.step)⟩
      ·rw [if_neg c9] at H
       have c9b0 : ((Int.tmod (wrap64 ((wrap64 ((rd l0 a2) - (rd l0 a1))) + 3)) 3) == 2) = false := beq_eq_false_iff_ne.mpr c9
       have c9b1 : ((Int.tmod (wrap64 ((wrap64 ((rd l0 a2) - (rd l0 a1))) + 3)) 3) != 2) = true := bne_iff_ne.mpr c9
       obtain rfl := Option.some.inj H
       have p255 : 0 ≤ (a2 : Int) := oD (by first|(with_reducible assumption)|assumption)
       have q255 : a2 < (l0.length : Int) := oD (by first|(with_reducible assumption)|assumption)
       obtain ⟨ad255, e255, hx255_0⟩ := aI HR0.out a2 p255 q255
       cases e255
       replace p255 := eq_true p255
       replace q255 := eq_true q255
       have p256 : 0 ≤ (a1 : Int) := oD (by first|(with_reducible assumption)|assumption)
       have q256 : a1 < (l0.length : Int) := oD (by first|(with_reducible assumption)|assumption)
       obtain ⟨ad256, e256, hx256_0⟩ := aI HR0.out a1 p256 q256
       obtain rfl : ad255 = ad256 := (by injection e256)
       replace p256 := eq_true p256
       replace q256 := eq_true q256
       go_enter Try.func43, Try.ntmps43
       go_wp2
       repeat (go_quiet (fail);try go_wp2)
       go_ret
       exact ⟨by first|rfl|(simp; done)|(simp [*]; done), by repeat (first|exact Drawn0.refl _|apply Drawn0.step)⟩
    ·rw [if_neg c7] at H
     exact absurd H (by simp)
   ·rw [if_neg c6] at H
    exact absurd H (by simp)
  ·rw [if_neg c5] at H
   exact absurd H (by simp)
 ·rw [if_neg c4] at H
  exact absurd H (by simp)

/-! ### impl_ClimbOf: function 14 -/
mutual
def impl_ClimbOf.j0 : Nat → List Int → List Int → Bool → Option (Int × Bool)
 | 0, _, _, _ => none
 | k + 1, x1, x2, x19 => if x19 = true then (some (0, false)) else (impl_ClimbOf.l0 k x1 x2 0 1)
def impl_ClimbOf.l0 : Nat → List Int → List Int → Int → Int → Option (Int × Bool)
 | 0, _, _, _, _ => none
 | k + 1, x1, x2, x8, x9 => if x9 < (x2.length : Int) then (if 0 ≤ (wrap64 (x9 - 1)) then (if (wrap64 (x9 - 1)) < (x2.length : Int) then (if 0 ≤ x9 then ((impl_rise.f x1 (rd x2 (wrap64 (x9 - 1))) (rd x2 x9)).bind fun t261 => (impl_ClimbOf.l0 k x1 x2 (wrap64 (x8 + t261)) (wrap64 (x9 + 1)))) else (none)) else (none)) else (none)) else (some (x8, true))
end
def impl_ClimbOf.f (k : Nat) (l0 : List Int) (l1 : List Int) (l2 : List Int) : Option (Int × Bool) := (impl_TourOk.f k l0 l2).bind fun t257 => (if t257 = true then ((impl_asked.f k l0 3 l1).bind fun t258 => (impl_ClimbOf.j0 k l1 l2 (!t258))) else (impl_ClimbOf.j0 k l1 l2 true))
theorem impl_ClimbOf.mono_l : ∀ k, (∀ y0 y1 y2, LeO (impl_ClimbOf.j0 k y0 y1 y2) (impl_ClimbOf.j0 (k + 1) y0 y1 y2)) ∧ (∀ y0 y1 y2 y3, LeO (impl_ClimbOf.l0 k y0 y1 y2 y3) (impl_ClimbOf.l0 (k + 1) y0 y1 y2 y3))
 | 0 => ⟨fun _ _ _ r h => by simp [impl_ClimbOf.j0] at h, fun _ _ _ _ r h => by simp [impl_ClimbOf.l0] at h⟩
 | k + 1 => by
  obtain ⟨ih0, ih1⟩ := impl_ClimbOf.mono_l k
  refine ⟨?_, ?_⟩
  ·intro y0 y1 y2
   unfold impl_ClimbOf.j0
   repeat' first|(with_reducible first|exact ih0 _ _ _|exact ih1 _ _ _ _|exact impl_TourOk.mono _ _ _|exact impl_asked.mono _ _ _ _|exact LeO.refl _|exact LeO.none _|refine LeO.ite ?_ ?_|refine LeO.bind ?_ (fun _ => ?_))|exact ih0 _ _ _|exact ih1 _ _ _ _|exact impl_TourOk.mono _ _ _|exact impl_asked.mono _ _ _ _|exact LeO.none _|refine LeO.ite ?_ ?_|refine LeO.bind ?_ (fun _ => ?_)
  ·intro y0 y1 y2 y3
   unfold impl_ClimbOf.l0
   repeat' first|(with_reducible first|exact ih0 _ _ _|exact ih1 _ _ _ _|exact impl_TourOk.mono _ _ _|exact impl_asked.mono _ _ _ _|exact LeO.refl _|exact LeO.none _|refine LeO.ite ?_ ?_|refine LeO.bind ?_ (fun _ => ?_))|exact ih0 _ _ _|exact ih1 _ _ _ _|exact impl_TourOk.mono _ _ _|exact impl_asked.mono _ _ _ _|exact LeO.none _|refine LeO.ite ?_ ?_|refine LeO.bind ?_ (fun _ => ?_)
theorem impl_ClimbOf.mono : ∀ a0 a1 a2 k, LeO (impl_ClimbOf.f k a0 a1 a2) (impl_ClimbOf.f (k + 1) a0 a1 a2) := by
 intro a0 a1 a2 k
 obtain ⟨ih0, ih1⟩ := impl_ClimbOf.mono_l k
 unfold impl_ClimbOf.f
 repeat' first|(with_reducible first|exact ih0 _ _ _|exact ih1 _ _ _ _|exact impl_TourOk.mono _ _ _|exact impl_asked.mono _ _ _ _|exact LeO.refl _|exact LeO.none _|refine LeO.ite ?_ ?_|refine LeO.bind ?_ (fun _ => ?_))|exact ih0 _ _ _|exact ih1 _ _ _ _|exact impl_TourOk.mono _ _ _|exact impl_asked.mono _ _ _ _|exact LeO.none _|refine LeO.ite ?_ ?_|refine LeO.bind ?_ (fun _ => ?_)
set_option maxHeartbeats 8000000 in
set_option maxRecDepth 100000 in
theorem impl_ClimbOf.calls (k : Nat) (A0 : Option Addr) (c0 : Nat) (l0 : List Int) (A1 : Option Addr) (c1 : Nat) (l1 : List Int) (A2 : Option Addr) (c2 : Nat) (l2 : List Int) (r1 : Int) (r2 : Bool) (w : World) (hr0 : Kd.C (Kd.int .i64) w A0 l0.length l0) (hc0 : l0.length ≤ c0) (hr1 : Kd.C (Kd.int .i64) w A1 l1.length l1) (hc1 : l1.length ≤ c1) (hr2 : Kd.C (Kd.int .i64) w A2 l2.length l2) (hc2 : l2.length ≤ c2) (h : impl_ClimbOf.f k l0 l1 l2 = some (r1, r2)) :
  Calls Try.prog 14 #[.slice A0 l0.length c0, .slice A1 l1.length c1, .slice A2 l2.length c2] w fun e w' => e = .returned (.tuple #[.int .i64 r1, .bool r2]) ∧ Drawn0 w w' := by
 have HR0 := Aside0.mk hr0
 have HC0 := Aside0.mk hc0
 clear hr0 hc0
 have HR1 := Aside0.mk hr1
 have HC1 := Aside0.mk hc1
 clear hr1 hc1
 have HR2 := Aside0.mk hr2
 have HC2 := Aside0.mk hc2
 clear hr2 hc2
 have H : ((impl_TourOk.f k l0 l2).bind fun t257 => (if t257 = true then ((impl_asked.f k l0 3 l1).bind fun t258 => (impl_ClimbOf.j0 k l1 l2 (!t258))) else (impl_ClimbOf.j0 k l1 l2 true))) = some (r1, r2) := h
 clear h
 have HC4 := Aside0.mk H
 clear H
 go_enter Try.func14, Try.ntmps14
 go_upto_region 1 with (fail)
 repeat (go_quiet (fail);go_upto_region 1 with (fail))
 go_cut [19] (fun v19 wc => ∃ (kq : Nat) (x19_3 : Bool), v19 = .bool x19_3 ∧ Aside0 (impl_ClimbOf.j0 kq l1 l2 x19_3 = some (r1, r2)) ∧ Aside0 (kq ≤ k) ∧ Drawn0 w wc)
 case first =>
  have H := HC4.out
  clear HC4
  replace H := Option.bind_eq_some_iff.mp H
  obtain ⟨t257, A50, H⟩ := H
  replace H : (if t257 = true then ((impl_asked.f k l0 3 l1).bind fun t258 => (impl_ClimbOf.j0 k l1 l2 (!t258))) else (impl_ClimbOf.j0 k l1 l2 true)) = some (r1, r2) := H
  have A5 := Aside0.mk A50
  clear A50
  by_cases c6 : t257 = true
  ·subst c6
   have H1 : ((impl_asked.f k l0 3 l1).bind fun t258 => (impl_ClimbOf.j0 k l1 l2 (!t258))) = some (r1, r2) := by rw [if_pos rfl] at H; exact H
   clear H
   have H := H1
   clear H1
   replace H := Option.bind_eq_some_iff.mp H
   obtain ⟨t258, A70, H⟩ := H
   replace H : (impl_ClimbOf.j0 k l1 l2 (!t258)) = some (r1, r2) := H
   have A7 := Aside0.mk A70
   clear A70
   have H' := Aside0.mk H
   clear H
   go_wp2_with (first|(go_at_call 41;(with_reducible refine (impl_TourOk.calls k _ _ l0 _ _ l2 true _ ?side1 ?side2 ?side3 ?side4 A5.out).mono ?_);(case side1 => repeat (first|exact HR0.out|(with_reducible first|refine cA ?_ _|refine cN ?_ _|refine cD ?_)));(case side2 => exact HC0.out);(case side3 => repeat (first|exact HR2.out|(with_reducible first|refine cA ?_ _|refine cN ?_ _|refine cD ?_)));(case side4 => exact HC2.out);rintro e w' ⟨rfl,⟨nd,rfl⟩⟩;(try first|exact ⟨rfl,_,dD _ _ _⟩|exact ⟨rfl,_,Eq.trans (dD _ _ _) (congrArg (World.drewN _) (nA _ _ _))⟩))|(go_at_call 42;(with_reducible refine (impl_asked.calls k _ _ l0 3 _ _ l1 t258 _ ?side1 ?side2 ?side3 ?side4 A7.out).mono ?_);(case side1 => repeat (first|exact HR0.out|(with_reducible first|refine cA ?_ _|refine cN ?_ _|refine cD ?_)));(case side2 => exact HC0.out);(case side3 => repeat (first|exact HR1.out|(with_reducible first|refine cA ?_ _|refine cN ?_ _|refine cD ?_)));(case side4 => exact HC1.out);rintro e w' ⟨rfl,⟨nd,rfl⟩⟩;(try first|exact ⟨rfl,_,dD _ _ _⟩|exact ⟨rfl,_,Eq.trans (dD _ _ _) (congrArg (World.drewN _) (nA _ _ _))⟩)))
   repeat (go_quiet (first|(go_at_call 41;(with_reducible refine (impl_TourOk.calls k _ _ l0 _ _ l2 true _ ?side1 ?side2 ?side3 ?side4 A5.out).mono ?_);(case side1 => repeat (first|exact HR0.out|(with_reducible first|refine cA ?_ _|refine cN ?_ _|refine cD ?_)));(case side2 => exact HC0.out);(case side3 => repeat (first|exact HR2.out|(with_reducible first|refine cA ?_ _|refine cN ?_ _|refine cD ?_)));(case side4 => exact HC2.out);rintro e w' ⟨rfl,⟨nd,rfl⟩⟩;(try first|exact ⟨rfl,_,dD _ _ _⟩|exact ⟨rfl,_,Eq.trans (dD _ _ _) (congrArg (World.drewN _) (nA _ _ _))⟩))|(go_at_call 42;(with_reducible refine (impl_asked.calls k _ _ l0 3 _ _ l1 t258 _ ?side1 ?side2 ?side3 ?side4 A7.out).mono ?_);(case side1 => repeat (first|exact HR0.out|(with_reducible first|refine cA ?_ _|refine cN ?_ _|refine cD ?_)));(case side2 => exact HC0.out);(case side3 => repeat (first|exact HR1.out|(with_reducible first|refine cA ?_ _|refine cN ?_ _|refine cD ?_)));(case side4 => exact HC1.out);rintro e w' ⟨rfl,⟨nd,rfl⟩⟩;(try first|exact ⟨rfl,_,dD _ _ _⟩|exact ⟨rfl,_,Eq.trans (dD _ _ _) (congrArg (World.drewN _) (nA _ _ _))⟩)));try go_wp2_with (first|(go_at_call 41;(with_reducible refine (impl_TourOk.calls k _ _ l0 _ _ l2 true _ ?side1 ?side2 ?side3 ?side4 A5.out).mono ?_);(case side1 => repeat (first|exact HR0.out|(with_reducible first|refine cA ?_ _|refine cN ?_ _|refine cD ?_)));(case side2 => exact HC0.out);(case side3 => repeat (first|exact HR2.out|(with_reducible first|refine cA ?_ _|refine cN ?_ _|refine cD ?_)));(case side4 => exact HC2.out);rintro e w' ⟨rfl,⟨nd,rfl⟩⟩;(try first|exact ⟨rfl,_,dD _ _ _⟩|exact ⟨rfl,_,Eq.trans (dD _ _ _) (congrArg (World.drewN _) (nA _ _ _))⟩))|(go_at_call 42;(with_reducible refine (impl_asked.calls k _ _ l0 3 _ _ l1 t258 _ ?side1 ?side2 ?side3 ?side4 A7.out).mono ?_);(case side1 => repeat (first|exact HR0.out|(with_reducible first|refine cA ?_ _|refine cN ?_ _|refine cD ?_)));(case side2 => exact HC0.out);(case side3 => repeat (first|exact HR1.out|(with_reducible first|refine cA ?_ _|refine cN ?_ _|refine cD ?_)));(case side4 => exact HC1.out);rintro e w' ⟨rfl,⟨nd,rfl⟩⟩;(try first|exact ⟨rfl,_,dD _ _ _⟩|exact ⟨rfl,_,Eq.trans (dD _ _ _) (congrArg (World.drewN _) (nA _ _ _))⟩))))
   go_meet
   case rel => exact ⟨_, (!t258), (by first|rfl|(simp; done)|(simp [*]; done)), H', ⟨by first|omega|exact Nat.le_refl _⟩, by repeat (first|exact Drawn0.refl _|apply Drawn0.step)⟩
  ·replace c6 := Bool.eq_false_iff.mpr c6
   subst c6
   have H1 : (impl_ClimbOf.j0 k l1 l2 true) = some (r1, r2) := by rw [if_neg (show ¬ (false = true) by decide)] at H; exact H
   clear H
   have H := H1
   clear H1
   have H' := Aside0.mk H
   clear H
   go_wp2_with (first|(go_at_call 41;(with_reducible refine (impl_TourOk.calls k _ _ l0 _ _ l2 false _ ?side1 ?side2 ?side3 ?side4 A5.out).mono ?_);(case side1 => repeat (first|exact HR0.out|(with_reducible first|refine cA ?_ _|refine cN ?_ _|refine cD ?_)));(case side2 => exact HC0.out);(case side3 => repeat (first|exact HR2.out|(with_reducible first|refine cA ?_ _|refine cN ?_ _|refine cD ?_)));(case side4 => exact HC2.out);rintro e w' ⟨rfl,⟨nd,rfl⟩⟩;(try first|exact ⟨rfl,_,dD _ _ _⟩|exact ⟨rfl,_,Eq.trans (dD _ _ _) (congrArg (World.drewN _) (nA _ _ _))⟩)))
   repeat (go_quiet (first|(go_at_call 41;(with_reducible refine (impl_TourOk.calls k _ _ l0 _ _ l2 false _ ?side1 ?side2 ?side3 ?side4 A5.out).mono ?_);(case side1 => repeat (first|exact HR0.out|(with_reducible first|refine cA ?_ _|refine cN ?_ _|refine cD ?_)));(case side2 => exact HC0.out);(case side3 => repeat (first|exact HR2.out|(with_reducible first|refine cA ?_ _|refine cN ?_ _|refine cD ?_)));(case side4 => exact HC2.out);rintro e w' ⟨rfl,⟨nd,rfl⟩⟩;(try first|exact ⟨rfl,_,dD _ _ _⟩|exact ⟨rfl,_,Eq.trans (dD _ _ _) (congrArg (World.drewN _) (nA _ _ _))⟩)));try go_wp2_with (first|(go_at_call 41;(with_reducible refine (impl_TourOk.calls k _ _ l0 _ _ l2 false _ ?side1 ?side2 ?side3 ?side4 A5.out).mono ?_);(case side1 => repeat (first|exact HR0.out|(with_reducible first|refine cA ?_ _|refine cN ?_ _|refine cD ?_)));(case side2 => exact HC0.out);(case side3 => repeat (first|exact HR2.out|(with_reducible first|refine cA ?_ _|refine cN ?_ _|refine cD ?_)));(case side4 => exact HC2.out);rintro e w' ⟨rfl,⟨nd,rfl⟩⟩;(try first|exact ⟨rfl,_,dD _ _ _⟩|exact ⟨rfl,_,Eq.trans (dD _ _ _) (congrArg (World.drewN _) (nA _ _ _))⟩))))
   go_meet
   case rel => exact ⟨_, (true), (by first|rfl|(simp; done)|(simp [*]; done)), H', ⟨by first|omega|exact Nat.le_refl _⟩, by repeat (first|exact Drawn0.refl _|apply Drawn0.step)⟩
 case rest =>
  clear HC4
  try clear c1
  try clear c2
  try clear p2
  try clear c6
  obtain ⟨kq, x19_3, rfl, HA, HJ3, ⟨mc3, rfl⟩⟩ := hcut
  cases kq with
  | zero => exact absurd HA.out (by simp [impl_ClimbOf.j0])
  | succ kj3 =>
   have H := HA.out
   clear HA
   simp only [impl_ClimbOf.j0] at H
   by_cases c8 : x19_3 = true
   ·subst c8
    have H1 : (some (0, false)) = some (r1, r2) := by rw [if_pos rfl] at H; exact H
    clear H
    have H := H1
    clear H1
    simp only [Option.some.injEq, Prod.mk.injEq] at H
    obtain ⟨rfl, rfl⟩ := H
    go_wp2
    repeat (go_quiet (fail);try go_wp2)
    go_ret2
    exact ⟨by first|rfl|(simp; done)|(simp [*]; done), by repeat (first|exact Drawn0.refl _|apply Drawn0.step)⟩
   ·replace c8 := Bool.eq_false_iff.mpr c8
    subst c8
    have H1 : (impl_ClimbOf.l0 kj3 l1 l2 0 1) = some (r1, r2) := by rw [if_neg (show ¬ (false = true) by decide)] at H; exact H
    clear H
    have H := H1
    clear H1
    have H' := Aside0.mk H
    clear H
    go_wp2
    repeat (go_quiet (fail);try go_wp2)
    go_loopg [8, 9] kj3 (fun kq v8 v9 w' => ∃ (x8_2 : Int) (x9_2 : Int), v8 = .int .i64 x8_2 ∧ v9 = .int .i64 x9_2 ∧ Aside0 (impl_ClimbOf.l0 kq l1 l2 x8_2 x9_2 = some (r1, r2)) ∧ Aside0 (kq ≤ kj3) ∧ Drawn0 w w')
    case atStart => exact ⟨(0), (1), (by first|rfl|(simp; done)|(simp [*]; done)), (by first|rfl|(simp; done)|(simp [*]; done)), H', ⟨Nat.le_refl _⟩, by repeat (first|exact Drawn0.refl _|apply Drawn0.step)⟩
    case round =>
     clear H'
     try clear c1
     try clear c2
     try clear p2
     try clear c3
     try clear c6
     try clear c8
     try clear p2
     obtain ⟨x8_2, x9_2, rfl, rfl, HA, HK2, ⟨m2, rfl⟩⟩ := hrel
     cases gk with
     | zero => exact absurd HA.out (by simp [impl_ClimbOf.l0])
     | succ k2 =>
      have H := HA.out
      clear HA
      simp only [impl_ClimbOf.l0] at H
      by_cases c9 : x9_2 < (l2.length : Int)
      ·rw [if_pos c9] at H
       have c9b0 : decide (x9_2 < (l2.length : Int)) = true := decide_eq_true c9
       clear c9
       obtain ⟨ji10, hji10⟩ : ∃ j_ : Int, (wrap64 (x9_2 - 1)) = j_ := ⟨_, rfl⟩
       replace H : (if 0 ≤ (ji10) then (if (ji10) < (l2.length : Int) then (if 0 ≤ x9_2 then ((impl_rise.f l1 (rd l2 (ji10)) (rd l2 x9_2)).bind fun t261 => (impl_ClimbOf.l0 k2 l1 l2 (wrap64 (x8_2 + t261)) (wrap64 (x9_2 + 1)))) else (none)) else (none)) else (none)) = some (r1, r2) := by first|(rw [hji10] at H; exact H)|(simp only [hji10] at H ⊢; exact H)
       have hji10w : (IntKind.i64.wrap (x9_2 - 1)) = ji10 := (i64_w _).trans hji10
       by_cases c11 : 0 ≤ (ji10)
       ·rw [if_pos c11] at H
        have c11b0 : decide (0 ≤ (ji10)) = true := decide_eq_true c11
        clear c11
        by_cases c12 : (ji10) < (l2.length : Int)
        ·rw [if_pos c12] at H
         have c12b0 : decide ((ji10) < (l2.length : Int)) = true := decide_eq_true c12
         clear c12
         by_cases c13 : 0 ≤ x9_2
         ·rw [if_pos c13] at H
          have c13b0 : decide (0 ≤ x9_2) = true := decide_eq_true c13
          clear c13
          replace H := Option.bind_eq_some_iff.mp H
          obtain ⟨t261, A140, H⟩ := H
          replace H : (impl_ClimbOf.l0 k2 l1 l2 (wrap64 (x8_2 + t261)) (wrap64 (x9_2 + 1))) = some (r1, r2) := H
          have A14 := Aside0.mk A140
          clear A140
          have H' := Aside0.mk H
          clear H
          have p259 : 0 ≤ ((ji10) : Int) := oD (by first|(with_reducible assumption)|assumption)
          have q259 : (ji10) < (l2.length : Int) := oD (by first|(with_reducible assumption)|assumption)
          obtain ⟨ad259, e259, hx259_0⟩ := aI HR2.out (ji10) p259 q259
          cases e259
          replace p259 := eq_true p259
          replace q259 := eq_true q259
          have p260 : 0 ≤ (x9_2 : Int) := oD (by first|(with_reducible assumption)|assumption)
          have q260 : x9_2 < (l2.length : Int) := oD (by first|(with_reducible assumption)|assumption)
          obtain ⟨ad260, e260, hx260_0⟩ := aI HR2.out x9_2 p260 q260
          obtain rfl : ad259 = ad260 := (by injection e260)
          replace p260 := eq_true p260
          replace q260 := eq_true q260
          go_wp2_with (first|(go_at_call 43;(with_reducible refine (impl_rise.calls _ _ l1 (rd l2 (ji10)) (rd l2 x9_2) t261 _ ?side1 ?side2 A14.out).mono ?_);(case side1 => repeat (first|exact HR1.out|(with_reducible first|refine cA ?_ _|refine cN ?_ _|refine cD ?_)));(case side2 => exact HC1.out);rintro e w' ⟨rfl,⟨nd,rfl⟩⟩;(try first|exact ⟨rfl,_,dD _ _ _⟩|exact ⟨rfl,_,Eq.trans (dD _ _ _) (congrArg (World.drewN _) (nA _ _ _))⟩)))
          repeat (go_quiet (first|(go_at_call 43;(with_reducible refine (impl_rise.calls _ _ l1 (rd l2 (ji10)) (rd l2 x9_2) t261 _ ?side1 ?side2 A14.out).mono ?_);(case side1 => repeat (first|exact HR1.out|(with_reducible first|refine cA ?_ _|refine cN ?_ _|refine cD ?_)));(case side2 => exact HC1.out);rintro e w' ⟨rfl,⟨nd,rfl⟩⟩;(try first|exact ⟨rfl,_,dD _ _ _⟩|exact ⟨rfl,_,Eq.trans (dD _ _ _) (congrArg (World.drewN _) (nA _ _ _))⟩)));try go_wp2_with (first|(go_at_call 43;(with_reducible refine (impl_rise.calls _ _ l1 (rd l2 (ji10)) (rd l2 x9_2) t261 _ ?side1 ?side2 A14.out).mono ?_);(case side1 => repeat (first|exact HR1.out|(with_reducible first|refine cA ?_ _|refine cN ?_ _|refine cD ?_)));(case side2 => exact HC1.out);rintro e w' ⟨rfl,⟨nd,rfl⟩⟩;(try first|exact ⟨rfl,_,dD _ _ _⟩|exact ⟨rfl,_,Eq.trans (dD _ _ _) (congrArg (World.drewN _) (nA _ _ _))⟩))))
          go_roundg k2
          case measure => have := HJ3.out; have := HK2.out; omega
          case rel => exact ⟨(wrap64 (x8_2 + t261)), (wrap64 (x9_2 + 1)), (by first|rfl|(simp; done)|(simp [*]; done)), (by first|rfl|(simp; done)|(simp [*]; done)), H', ⟨by have := HJ3.out; have := HK2.out; omega⟩, by repeat (first|exact Drawn0.refl _|apply Drawn0.step)⟩
         ·rw [if_neg c13] at H
          exact absurd H (by simp)
        ·rw [if_neg c12] at H
         exact absurd H (by simp)
       ·rw [if_neg c11] at H
        exact absurd H (by simp)
      ·rw [if_neg c9] at H
       have c9b0 : decide (x9_2 < (l2.length : Int)) = false := decide_eq_false c9
       clear c9
       simp only [Option.some.injEq, Prod.mk.injEq] at H
       obtain ⟨rfl, rfl⟩ := H
       go_wp2
       repeat (go_quiet (fail);try go_wp2)
       go_ret2
       exact ⟨by first|rfl|(simp; done)|(simp [*]; done), by repeat (first|exact Drawn0.refl _|apply Drawn0.step)⟩

/-! ### laws_alive: function 15 -/
def laws_alive.f (k : Nat)  : Option (Bool) := (impl_NetOk.f k (([2, 1] : List Int))).bind fun t265 => (if t265 = true then ((impl_NetOk.f k (([1] : List Int))).bind fun t269 => (some (!t269))) else (some false))
theorem laws_alive.mono : ∀ k, LeO (laws_alive.f k ) (laws_alive.f (k + 1) ) := by
 intro  k
 unfold laws_alive.f
 repeat' first|(with_reducible first|exact impl_NetOk.mono _ _|exact LeO.refl _|exact LeO.none _|refine LeO.ite ?_ ?_|refine LeO.bind ?_ (fun _ => ?_))|exact impl_NetOk.mono _ _|exact LeO.none _|refine LeO.ite ?_ ?_|refine LeO.bind ?_ (fun _ => ?_)
set_option maxHeartbeats 8000000 in
set_option maxRecDepth 100000 in
theorem laws_alive.calls (k : Nat)  (r : Bool) (w : World) (h : laws_alive.f k  = some r) :
  Calls Try.prog 15 #[] w fun e w' => e = .returned (.bool r) ∧ Below w.heap.size w w' := by
 have HB := Aside0.mk (Below.refl w.heap.size w)
 have H : ((impl_NetOk.f k (([2, 1] : List Int))).bind fun t265 => (if t265 = true then ((impl_NetOk.f k (([1] : List Int))).bind fun t269 => (some (!t269))) else (some false))) = some r := h
 clear h
 obtain ⟨y262, hy262⟩ : ∃ y_ : List Int, y_ = (([2, 1] : List Int)) := ⟨_, rfl⟩
 replace H : ((impl_NetOk.f k y262).bind fun t265 => (if t265 = true then ((impl_NetOk.f k (([1] : List Int))).bind fun t269 => (some (!t269))) else (some false))) = some r := by first|(rw [hy262]; with_reducible exact H)|(have H2_ := (Option.bind_some _ _).symm.trans H; rw [hy262]; with_reducible exact H2_)|(have H2_ := (Option.bind_some _ _).symm.trans H; with_reducible exact H2_)|with_reducible exact H|(rw [hy262]; exact H)|exact H
 have Ny262 := Aside0.mk hy262
 clear hy262
 replace H := Option.bind_eq_some_iff.mp H
 obtain ⟨t265, A10, H⟩ := H
 replace H : (if t265 = true then ((impl_NetOk.f k (([1] : List Int))).bind fun t269 => (some (!t269))) else (some false)) = some r := H
 have A1 := Aside0.mk A10
 clear A10
 by_cases c2 : t265 = true
 ·subst c2
  have H1 : ((impl_NetOk.f k (([1] : List Int))).bind fun t269 => (some (!t269))) = some r := by rw [if_pos rfl] at H; exact H
  clear H
  have H := H1
  clear H1
  obtain ⟨y266, hy266⟩ : ∃ y_ : List Int, y_ = (([1] : List Int)) := ⟨_, rfl⟩
  replace H : ((impl_NetOk.f k y266).bind fun t269 => (some (!t269))) = some r := by first|(rw [hy266]; with_reducible exact H)|(have H2_ := (Option.bind_some _ _).symm.trans H; rw [hy266]; with_reducible exact H2_)|(have H2_ := (Option.bind_some _ _).symm.trans H; with_reducible exact H2_)|with_reducible exact H|(rw [hy266]; exact H)|exact H
  have Ny266 := Aside0.mk hy266
  clear hy266
  replace H := Option.bind_eq_some_iff.mp H
  obtain ⟨t269, A30, H⟩ := H
  replace H : (some (!t269)) = some r := H
  have A3 := Aside0.mk A30
  clear A30
  obtain rfl := Option.some.inj H
  go_enter Try.func15, Try.ntmps15
  go_wp2_with (first|((with_reducible refine gate_dst (N:=1) rfl ?_);(try (refine gate_guard (by rfl) ?_;dsimp only));refine Kd.R_lit (Kd.int .i64) _ 3 ?hg (N:=1) ?hd (xs:=([2,1] : List Int)) (inner:=[.int .i64 2,.int .i64 1]) (ok:=fun _ => True) (okp:=fun _ => True) ?hr ?hp (fun _ hk => hk) trivial (Below.refl _ _) (Nat.le_refl _) (by simp) ?_;(case hd => rfl);(case hg => rfl);(case hr => first|(go_simp;done)|(go_simp;rfl));(case hp => exact (Reps.one (show Kd.M (Kd.int .i64) _ _ _ 2 [.int .i64 2] from rfl) (Reps.one (show Kd.M (Kd.int .i64) _ _ _ 1 [.int .i64 1] from rfl) (Reps.none _ _))));intro v263 w4 ho5 hb hg_ hnew_;clear hg_ hnew_;(first|rw [← Ny262.out] at ho5|(simp only [Int.reduceToNat] at ho5;rw [← Ny262.out] at ho5));have n0_:=Aside0.mk (Kd.R_lower ho5 (bS (by repeat (first|(with_reducible first|exact HB.out|apply bA|apply bN|apply bD)|exact HB.out))));have n1_:=Aside0.mk (bT (by repeat (first|(with_reducible first|exact HB.out|apply bA|apply bN|apply bD)|exact HB.out)) hb);clear HB;have HO264:=n0_;have HB:=n1_;clear n0_ n1_;clear hb ho5;obtain ⟨Ao6,co6,eo6⟩:=kS HO264.out;subst eo6)|((with_reducible refine gate_callee (f:=44) rfl ?_);refine goesL_ (some 2) rfl rfl Try.func44 (by kernel_rfl) rfl #[.slice Ao6 y262.length co6] rfl (by (try simp only [List.map_toArray,List.map_cons,List.map_nil]);first|done|rfl|(simp only [List.length_drop,List.length_take];rfl)) ?_;(with_reducible refine (impl_NetOk.calls k _ _ y262 true _ ?side1 ?side2 A1.out).mono ?_);(case side1 => repeat (first|exact (kR HO264.out).2.2|(with_reducible first|refine cA ?_ _|refine cN ?_ _|refine cD ?_)));(case side2 => exact (kR HO264.out).2.1);rintro e w' ⟨rfl,⟨nd,rfl⟩⟩;refine ⟨_,rfl,?_⟩)|((with_reducible refine gate_dst (N:=4) rfl ?_);(try (refine gate_guard (by rfl) ?_;dsimp only));refine Kd.R_lit (Kd.int .i64) _ 3 ?hg (N:=4) ?hd (xs:=([1] : List Int)) (inner:=[.int .i64 1]) (ok:=fun _ => True) (okp:=fun _ => True) ?hr ?hp (fun _ hk => hk) trivial (Below.refl _ _) (Nat.le_refl _) (by simp) ?_;(case hd => rfl);(case hg => rfl);(case hr => first|(go_simp;done)|(go_simp;rfl));(case hp => exact (Reps.one (show Kd.M (Kd.int .i64) _ _ _ 1 [.int .i64 1] from rfl) (Reps.none _ _)));intro v267 w7 ho8 hb hg_ hnew_;clear hg_ hnew_;(first|rw [← Ny266.out] at ho8|(simp only [Int.reduceToNat] at ho8;rw [← Ny266.out] at ho8));have n0_:=Aside0.mk (kE (by (with_reducible repeat first|apply rA|apply rN|apply rD);exact HO264.out) (Kd.R_base ho8) hb);have n1_:=Aside0.mk (Kd.R_lower (kN ho8 (Kd.R_lt (by (with_reducible repeat first|apply rA|apply rN|apply rD);exact HO264.out))) (bS (by repeat (first|(with_reducible first|exact HB.out|apply bA|apply bN|apply bD)|exact HB.out))));have n2_:=Aside0.mk (bT (by repeat (first|(with_reducible first|exact HB.out|apply bA|apply bN|apply bD)|exact HB.out)) hb);clear HO264;clear HB;have HO264:=n0_;have HO268:=n1_;have HB:=n2_;clear n0_ n1_ n2_;clear hb ho8;obtain ⟨Ao9,co9,eo9⟩:=kS HO268.out;subst eo9)|(go_at_call 44;(with_reducible refine (impl_NetOk.calls k _ _ y266 t269 _ ?side1 ?side2 A3.out).mono ?_);(case side1 => repeat (first|exact (kR HO268.out).2.2|(with_reducible first|refine cA ?_ _|refine cN ?_ _|refine cD ?_)));(case side2 => exact (kR HO268.out).2.1);rintro e w' ⟨rfl,⟨nd,rfl⟩⟩))
  go_ret
  exact ⟨by first|rfl|(simp [errW_none, errW_some] <;> rfl)|(simp [*, errW_none, errW_some] <;> rfl), by repeat (first|(with_reducible first|exact HB.out|apply bA|apply bN|apply bD)|exact HB.out)⟩
 ·replace c2 := Bool.eq_false_iff.mpr c2
  subst c2
  have H1 : (some false) = some r := by rw [if_neg (show ¬ (false = true) by decide)] at H; exact H
  clear H
  have H := H1
  clear H1
  obtain rfl := Option.some.inj H
  go_enter Try.func15, Try.ntmps15
  go_wp2_with (first|((with_reducible refine gate_dst (N:=1) rfl ?_);(try (refine gate_guard (by rfl) ?_;dsimp only));refine Kd.R_lit (Kd.int .i64) _ 3 ?hg (N:=1) ?hd (xs:=([2,1] : List Int)) (inner:=[.int .i64 2,.int .i64 1]) (ok:=fun _ => True) (okp:=fun _ => True) ?hr ?hp (fun _ hk => hk) trivial (Below.refl _ _) (Nat.le_refl _) (by simp) ?_;(case hd => rfl);(case hg => rfl);(case hr => first|(go_simp;done)|(go_simp;rfl));(case hp => exact (Reps.one (show Kd.M (Kd.int .i64) _ _ _ 2 [.int .i64 2] from rfl) (Reps.one (show Kd.M (Kd.int .i64) _ _ _ 1 [.int .i64 1] from rfl) (Reps.none _ _))));intro v263 w10 ho11 hb hg_ hnew_;clear hg_ hnew_;(first|rw [← Ny262.out] at ho11|(simp only [Int.reduceToNat] at ho11;rw [← Ny262.out] at ho11));have n0_:=Aside0.mk (Kd.R_lower ho11 (bS (by repeat (first|(with_reducible first|exact HB.out|apply bA|apply bN|apply bD)|exact HB.out))));have n1_:=Aside0.mk (bT (by repeat (first|(with_reducible first|exact HB.out|apply bA|apply bN|apply bD)|exact HB.out)) hb);clear HB;have HO264:=n0_;have HB:=n1_;clear n0_ n1_;clear hb ho11;obtain ⟨Ao12,co12,eo12⟩:=kS HO264.out;subst eo12)|((with_reducible refine gate_callee (f:=44) rfl ?_);refine goesL_ (some 2) rfl rfl Try.func44 (by kernel_rfl) rfl #[.slice Ao12 y262.length co12] rfl (by (try simp only [List.map_toArray,List.map_cons,List.map_nil]);first|done|rfl|(simp only [List.length_drop,List.length_take];rfl)) ?_;(with_reducible refine (impl_NetOk.calls k _ _ y262 false _ ?side1 ?side2 A1.out).mono ?_);(case side1 => repeat (first|exact (kR HO264.out).2.2|(with_reducible first|refine cA ?_ _|refine cN ?_ _|refine cD ?_)));(case side2 => exact (kR HO264.out).2.1);rintro e w' ⟨rfl,⟨nd,rfl⟩⟩;refine ⟨_,rfl,?_⟩))
  go_ret
  exact ⟨by first|rfl|(simp [errW_none, errW_some] <;> rfl)|(simp [*, errW_none, errW_some] <;> rfl), by repeat (first|(with_reducible first|exact HB.out|apply bA|apply bN|apply bD)|exact HB.out)⟩

end Go.Proofs.Ytcjjiajcjooccaa.PFnClimbRound
