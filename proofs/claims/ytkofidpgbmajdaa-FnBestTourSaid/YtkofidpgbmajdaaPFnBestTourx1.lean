-- Written by a program of this session (the kit's print, changed).
import Derived.Test.YtkofidpgbmajdaaSq
import Derived.Test.YtkofidpgbmajdaaPFnBestTourx0
namespace Go.Proofs.Ytkofidpgbmajdaa.PFnBestTour
open Go.RowKit Go.Proofs.YtkofidpgbmajdaaW.PrintWords Go.Proofs.YtkofidpgbmajdaaW.PrintLast Go.Proofs.YtkofidpgbmajdaaW.PrintMore
attribute [local go_sem] max2_int min2_int max_two min_two max_three min_three max_four min_four   -- for this text's walks alone
set_option linter.unusedVariables false
set_option linter.unusedSimpArgs false

/-! ### spec_l1In: function 24 -/
def spec_l1In.f (a0 : Int) (a1 : Int) (a2 : Int) : Option (Bool) := if a0 ≥ a1 then (some (decide (a0 ≤ a2))) else (some false)
set_option maxHeartbeats 8000000 in
set_option maxRecDepth 100000 in
theorem spec_l1In.calls (a0 : Int) (a1 : Int) (a2 : Int) (r : Bool) (w : World) (h : spec_l1In.f a0 a1 a2 = some r) :
  Calls Try.prog 24 #[.int .i64 a0, .int .i64 a1, .int .i64 a2] w fun e w' => e = .returned (.bool r) ∧ Drawn0 w w' := by
 have H : (if a0 ≥ a1 then (some (decide (a0 ≤ a2))) else (some false)) = some r := h
 clear h
 by_cases c4 : a0 ≥ a1
 ·rw [if_pos c4] at H
  have c4b0 : decide (a1 ≤ a0) = true := decide_eq_true c4
  clear c4
  obtain rfl := Option.some.inj H
  go_enter Try.func24, Try.ntmps24
  go_wp2
  go_ret
  exact ⟨by first|rfl|(simp; done)|(simp [*]; done), by repeat (first|exact Drawn0.refl _|apply Drawn0.step)⟩
 ·rw [if_neg c4] at H
  have c4b0 : decide (a1 ≤ a0) = false := decide_eq_false c4
  clear c4
  obtain rfl := Option.some.inj H
  go_enter Try.func24, Try.ntmps24
  go_wp2
  go_ret
  exact ⟨by first|rfl|(simp; done)|(simp [*]; done), by repeat (first|exact Drawn0.refl _|apply Drawn0.step)⟩

/-! ### spec_StateOk: function 36 -/
def spec_StateOk.l0 : Nat → Int → List Int → Int → Option (Bool)
 | 0, _, _, _ => none
 | k + 1, x0, x1, x5 => if x5 < (x1.length : Int) then (if 0 ≤ x5 then (if (rd x1 x5) < 0 then (some false) else (if (rd x1 x5) ≥ x0 then (some false) else (spec_StateOk.l0 k x0 x1 (wrap64 (x5 + 1))))) else (none)) else ((spec_l1In.f x0 3 5).bind fun t103 => (if t103 = true then ((spec_l1In.f (x1.length : Int) 1 6).bind fun t104 => (some t104)) else (some false)))
def spec_StateOk.f (k : Nat) (a0 : Int) (l1 : List Int) : Option (Bool) := spec_StateOk.l0 k a0 l1 0
theorem spec_StateOk.mono_l : ∀ k, (∀ y0 y1 y2, LeO (spec_StateOk.l0 k y0 y1 y2) (spec_StateOk.l0 (k + 1) y0 y1 y2))
 | 0 => fun _ _ _ r h => by simp [spec_StateOk.l0] at h
 | k + 1 => by
  have ih0 := spec_StateOk.mono_l k
  ·intro y0 y1 y2
   unfold spec_StateOk.l0
   repeat' first|(with_reducible first|exact ih0 _ _ _|exact LeO.refl _|exact LeO.none _|refine LeO.ite ?_ ?_|refine LeO.bind ?_ (fun _ => ?_))|exact ih0 _ _ _|exact LeO.none _|refine LeO.ite ?_ ?_|refine LeO.bind ?_ (fun _ => ?_)
theorem spec_StateOk.mono : ∀ a0 a1 k, LeO (spec_StateOk.f k a0 a1) (spec_StateOk.f (k + 1) a0 a1) := by
 intro a0 a1 k
 have ih0 := spec_StateOk.mono_l k
 unfold spec_StateOk.f
 repeat' first|(with_reducible first|exact ih0 _ _ _|exact LeO.refl _|exact LeO.none _|refine LeO.ite ?_ ?_|refine LeO.bind ?_ (fun _ => ?_))|exact ih0 _ _ _|exact LeO.none _|refine LeO.ite ?_ ?_|refine LeO.bind ?_ (fun _ => ?_)
set_option maxHeartbeats 8000000 in
set_option maxRecDepth 100000 in
theorem spec_StateOk.calls (k : Nat) (a0 : Int) (A1 : Option Addr) (c1 : Nat) (l1 : List Int) (r : Bool) (w : World) (hr1 : Kd.C (Kd.int .i64) w A1 l1.length l1) (hc1 : l1.length ≤ c1) (h : spec_StateOk.f k a0 l1 = some r) :
  Calls Try.prog 36 #[.int .i64 a0, .slice A1 l1.length c1] w fun e w' => e = .returned (.bool r) ∧ Drawn0 w w' := by
 have HR1 := Aside0.mk hr1
 have HC1 := Aside0.mk hc1
 clear hr1 hc1
 have H : (spec_StateOk.l0 k a0 l1 0) = some r := h
 clear h
 have H' := Aside0.mk H
 clear H
 go_enter Try.func36, Try.ntmps36
 go_wp2
 go_loopg [5] k (fun kq v5 w' => ∃ (x5_1 : Int), v5 = .int .i64 x5_1 ∧ Aside0 (spec_StateOk.l0 kq a0 l1 x5_1 = some r) ∧ Aside0 (kq ≤ k) ∧ Drawn0 w w')
 case atStart => exact ⟨(0), (by first|rfl|(simp; done)|(simp [*]; done)), H', ⟨Nat.le_refl _⟩, by repeat (first|exact Drawn0.refl _|apply Drawn0.step)⟩
 case round =>
  clear H'
  try clear c1
  try clear p2
  obtain ⟨x5_1, rfl, HA, HK1, ⟨m1, rfl⟩⟩ := hrel
  cases gk with
  | zero => exact absurd HA.out (by simp [spec_StateOk.l0])
  | succ k1 =>
   have H := HA.out
   clear HA
   simp only [spec_StateOk.l0] at H
   by_cases c3 : x5_1 < (l1.length : Int)
   ·rw [if_pos c3] at H
    have c3b0 : decide (x5_1 < (l1.length : Int)) = true := decide_eq_true c3
    clear c3
    by_cases c4 : 0 ≤ x5_1
    ·rw [if_pos c4] at H
     have c4b0 : decide (0 ≤ x5_1) = true := decide_eq_true c4
     clear c4
     by_cases c5 : (rd l1 x5_1) < 0
     ·rw [if_pos c5] at H
      have c5b0 : decide ((rd l1 x5_1) < 0) = true := decide_eq_true c5
      clear c5
      obtain rfl := Option.some.inj H
      have p101 : 0 ≤ (x5_1 : Int) := oD (by first|(with_reducible assumption)|assumption)
      have q101 : x5_1 < (l1.length : Int) := oD (by first|(with_reducible assumption)|assumption)
      obtain ⟨ad101, e101, hx101_0⟩ := aI HR1.out x5_1 p101 q101
      cases e101
      replace p101 := eq_true p101
      replace q101 := eq_true q101
      go_wp2
      go_ret
      exact ⟨by first|rfl|(simp; done)|(simp [*]; done), by repeat (first|exact Drawn0.refl _|apply Drawn0.step)⟩
     ·rw [if_neg c5] at H
      have c5b0 : decide ((rd l1 x5_1) < 0) = false := decide_eq_false c5
      clear c5
      by_cases c6 : (rd l1 x5_1) ≥ a0
      ·rw [if_pos c6] at H
       have c6b0 : decide (a0 ≤ (rd l1 x5_1)) = true := decide_eq_true c6
       clear c6
       obtain rfl := Option.some.inj H
       have p101 : 0 ≤ (x5_1 : Int) := oD (by first|(with_reducible assumption)|assumption)
       have q101 : x5_1 < (l1.length : Int) := oD (by first|(with_reducible assumption)|assumption)
       obtain ⟨ad101, e101, hx101_0⟩ := aI HR1.out x5_1 p101 q101
       cases e101
       replace p101 := eq_true p101
       replace q101 := eq_true q101
       have p102 : 0 ≤ (x5_1 : Int) := oD (by first|(with_reducible assumption)|assumption)
       have q102 : x5_1 < (l1.length : Int) := oD (by first|(with_reducible assumption)|assumption)
       obtain ⟨ad102, e102, hx102_0⟩ := aI HR1.out x5_1 p102 q102
       obtain rfl : ad101 = ad102 := (by injection e102)
       replace p102 := eq_true p102
       replace q102 := eq_true q102
       go_wp2
       go_ret
       exact ⟨by first|rfl|(simp; done)|(simp [*]; done), by repeat (first|exact Drawn0.refl _|apply Drawn0.step)⟩
      ·rw [if_neg c6] at H
       have c6b0 : decide (a0 ≤ (rd l1 x5_1)) = false := decide_eq_false c6
       clear c6
       have H' := Aside0.mk H
       clear H
       have p101 : 0 ≤ (x5_1 : Int) := oD (by first|(with_reducible assumption)|assumption)
       have q101 : x5_1 < (l1.length : Int) := oD (by first|(with_reducible assumption)|assumption)
       obtain ⟨ad101, e101, hx101_0⟩ := aI HR1.out x5_1 p101 q101
       cases e101
       replace p101 := eq_true p101
       replace q101 := eq_true q101
       have p102 : 0 ≤ (x5_1 : Int) := oD (by first|(with_reducible assumption)|assumption)
       have q102 : x5_1 < (l1.length : Int) := oD (by first|(with_reducible assumption)|assumption)
       obtain ⟨ad102, e102, hx102_0⟩ := aI HR1.out x5_1 p102 q102
       obtain rfl : ad101 = ad102 := (by injection e102)
       replace p102 := eq_true p102
       replace q102 := eq_true q102
       go_wp2
       go_roundg k1
       case measure => have := HK1.out; omega
       case rel => exact ⟨(wrap64 (x5_1 + 1)), (by first|rfl|(simp; done)|(simp [*]; done)), H', ⟨by have := HK1.out; omega⟩, by repeat (first|exact Drawn0.refl _|apply Drawn0.step)⟩
    ·rw [if_neg c4] at H
     exact absurd H (by simp)
   ·rw [if_neg c3] at H
    have c3b0 : decide (x5_1 < (l1.length : Int)) = false := decide_eq_false c3
    clear c3
    replace H := Option.bind_eq_some_iff.mp H
    obtain ⟨t103, A70, H⟩ := H
    replace H : (if t103 = true then ((spec_l1In.f (l1.length : Int) 1 6).bind fun t104 => (some t104)) else (some false)) = some r := H
    have A7 := Aside0.mk A70
    clear A70
    by_cases c8 : t103 = true
    ·subst c8
     have H1 : ((spec_l1In.f (l1.length : Int) 1 6).bind fun t104 => (some t104)) = some r := by rw [if_pos rfl] at H; exact H
     clear H
     have H := H1
     clear H1
     replace H := Option.bind_eq_some_iff.mp H
     obtain ⟨t104, A90, H⟩ := H
     replace H : (some t104) = some r := H
     have A9 := Aside0.mk A90
     clear A90
     obtain rfl := Option.some.inj H
     go_wp2_with (first|((with_reducible refine gate_callee (f:=24) rfl ?_);refine goesL_ (some 26) rfl rfl Try.func24 (by kernel_rfl) rfl #[.int .i64 a0,.int .i64 3,.int .i64 5] rfl (by (try simp only [List.map_toArray,List.map_cons,List.map_nil]);first|done|rfl|(simp only [List.length_drop,List.length_take];rfl)) ?_;(with_reducible refine (spec_l1In.calls a0 3 5 true _ A7.out).mono ?_);rintro e w' ⟨rfl,⟨nd,rfl⟩⟩;refine ⟨_,rfl,?_⟩)|(go_at_call 24;(with_reducible refine (spec_l1In.calls (l1.length : Int) 1 6 t104 _ A9.out).mono ?_);rintro e w' ⟨rfl,⟨nd,rfl⟩⟩))
     go_ret
     exact ⟨by first|rfl|(simp; done)|(simp [*]; done), by repeat (first|exact Drawn0.refl _|apply Drawn0.step)⟩
    ·replace c8 := Bool.eq_false_iff.mpr c8
     subst c8
     have H1 : (some false) = some r := by rw [if_neg (show ¬ (false = true) by decide)] at H; exact H
     clear H
     have H := H1
     clear H1
     obtain rfl := Option.some.inj H
     go_wp2_with (first|((with_reducible refine gate_callee (f:=24) rfl ?_);refine goesL_ (some 26) rfl rfl Try.func24 (by kernel_rfl) rfl #[.int .i64 a0,.int .i64 3,.int .i64 5] rfl (by (try simp only [List.map_toArray,List.map_cons,List.map_nil]);first|done|rfl|(simp only [List.length_drop,List.length_take];rfl)) ?_;(with_reducible refine (spec_l1In.calls a0 3 5 false _ A7.out).mono ?_);rintro e w' ⟨rfl,⟨nd,rfl⟩⟩;refine ⟨_,rfl,?_⟩))
     go_ret
     exact ⟨by first|rfl|(simp; done)|(simp [*]; done), by repeat (first|exact Drawn0.refl _|apply Drawn0.step)⟩

/-! ### spec_NetOk: function 38 -/
mutual
def spec_NetOk.l0 : Nat → List Int → Int → Option (Bool)
 | 0, _, _ => none
 | k + 1, x0, x3 => if x3 < (x0.length : Int) then (if 0 ≤ x3 then ((spec_l1In.f (rd x0 x3) 0 (wrap64 ((shl .i64 1 (x0.length : Int)) - 1))).bind fun t107 => (if t107 = true then (spec_NetOk.l0 k x0 (wrap64 (x3 + 1))) else (some false))) else (none)) else (spec_NetOk.l1 k x0 0)
def spec_NetOk.l1 : Nat → List Int → Int → Option (Bool)
 | 0, _, _ => none
 | k + 1, x0, x4 => if x4 < (x0.length : Int) then (spec_NetOk.l2 k x0 x4 0) else (some true)
def spec_NetOk.l2 : Nat → List Int → Int → Int → Option (Bool)
 | 0, _, _, _ => none
 | k + 1, x0, x4, x5 => if x5 < (x0.length : Int) then (if 0 ≤ x4 then (if x4 < (x0.length : Int) then (if 0 ≤ x5 then (if (Int.tmod (shr .i64 (rd x0 x4) x5) 2) = (Int.tmod (shr .i64 (rd x0 x5) x4) 2) then (if x5 = x4 then (if (Int.tmod (shr .i64 (rd x0 x4) x5) 2) = 1 then (some false) else (spec_NetOk.l2 k x0 x4 (wrap64 (x5 + 1)))) else (spec_NetOk.l2 k x0 x4 (wrap64 (x5 + 1)))) else (some false)) else (none)) else (none)) else (none)) else (spec_NetOk.l1 k x0 (wrap64 (x4 + 1)))
end
def spec_NetOk.f (k : Nat) (l0 : List Int) : Option (Bool) := (spec_l1In.f (l0.length : Int) 1 6).bind fun t105 => (if t105 = true then (spec_NetOk.l0 k l0 0) else (some false))
theorem spec_NetOk.mono_l : ∀ k, (∀ y0 y1, LeO (spec_NetOk.l0 k y0 y1) (spec_NetOk.l0 (k + 1) y0 y1)) ∧ (∀ y0 y1, LeO (spec_NetOk.l1 k y0 y1) (spec_NetOk.l1 (k + 1) y0 y1)) ∧ (∀ y0 y1 y2, LeO (spec_NetOk.l2 k y0 y1 y2) (spec_NetOk.l2 (k + 1) y0 y1 y2))
 | 0 => ⟨fun _ _ r h => by simp [spec_NetOk.l0] at h, fun _ _ r h => by simp [spec_NetOk.l1] at h, fun _ _ _ r h => by simp [spec_NetOk.l2] at h⟩
 | k + 1 => by
  obtain ⟨ih0, ih1, ih2⟩ := spec_NetOk.mono_l k
  refine ⟨?_, ?_, ?_⟩
  ·intro y0 y1
   unfold spec_NetOk.l0
   repeat' first|(with_reducible first|exact ih0 _ _|exact ih1 _ _|exact ih2 _ _ _|exact LeO.refl _|exact LeO.none _|refine LeO.ite ?_ ?_|refine LeO.bind ?_ (fun _ => ?_))|exact ih0 _ _|exact ih1 _ _|exact ih2 _ _ _|exact LeO.none _|refine LeO.ite ?_ ?_|refine LeO.bind ?_ (fun _ => ?_)
  ·intro y0 y1
   unfold spec_NetOk.l1
   repeat' first|(with_reducible first|exact ih0 _ _|exact ih1 _ _|exact ih2 _ _ _|exact LeO.refl _|exact LeO.none _|refine LeO.ite ?_ ?_|refine LeO.bind ?_ (fun _ => ?_))|exact ih0 _ _|exact ih1 _ _|exact ih2 _ _ _|exact LeO.none _|refine LeO.ite ?_ ?_|refine LeO.bind ?_ (fun _ => ?_)
  ·intro y0 y1 y2
   unfold spec_NetOk.l2
   repeat' first|(with_reducible first|exact ih0 _ _|exact ih1 _ _|exact ih2 _ _ _|exact LeO.refl _|exact LeO.none _|refine LeO.ite ?_ ?_|refine LeO.bind ?_ (fun _ => ?_))|exact ih0 _ _|exact ih1 _ _|exact ih2 _ _ _|exact LeO.none _|refine LeO.ite ?_ ?_|refine LeO.bind ?_ (fun _ => ?_)
theorem spec_NetOk.mono : ∀ a0 k, LeO (spec_NetOk.f k a0) (spec_NetOk.f (k + 1) a0) := by
 intro a0 k
 obtain ⟨ih0, ih1, ih2⟩ := spec_NetOk.mono_l k
 unfold spec_NetOk.f
 repeat' first|(with_reducible first|exact ih0 _ _|exact ih1 _ _|exact ih2 _ _ _|exact LeO.refl _|exact LeO.none _|refine LeO.ite ?_ ?_|refine LeO.bind ?_ (fun _ => ?_))|exact ih0 _ _|exact ih1 _ _|exact ih2 _ _ _|exact LeO.none _|refine LeO.ite ?_ ?_|refine LeO.bind ?_ (fun _ => ?_)
set_option maxHeartbeats 8000000 in
set_option maxRecDepth 100000 in
theorem spec_NetOk.calls (k : Nat) (A0 : Option Addr) (c0 : Nat) (l0 : List Int) (r : Bool) (w : World) (hr0 : Kd.C (Kd.int .i64) w A0 l0.length l0) (hc0 : l0.length ≤ c0) (h : spec_NetOk.f k l0 = some r) :
  Calls Try.prog 38 #[.slice A0 l0.length c0] w fun e w' => e = .returned (.bool r) ∧ Drawn0 w w' := by
 have HR0 := Aside0.mk hr0
 have HC0 := Aside0.mk hc0
 clear hr0 hc0
 have H : ((spec_l1In.f (l0.length : Int) 1 6).bind fun t105 => (if t105 = true then (spec_NetOk.l0 k l0 0) else (some false))) = some r := h
 clear h
 replace H := Option.bind_eq_some_iff.mp H
 obtain ⟨t105, A20, H⟩ := H
 replace H : (if t105 = true then (spec_NetOk.l0 k l0 0) else (some false)) = some r := H
 have A2 := Aside0.mk A20
 clear A20
 by_cases c3 : t105 = true
 ·subst c3
  have H1 : (spec_NetOk.l0 k l0 0) = some r := by rw [if_pos rfl] at H; exact H
  clear H
  have H := H1
  clear H1
  have H' := Aside0.mk H
  clear H
  go_enter Try.func38, Try.ntmps38
  go_wp2_with (first|(go_at_call 24;(with_reducible refine (spec_l1In.calls (l0.length : Int) 1 6 true _ A2.out).mono ?_);rintro e w' ⟨rfl,⟨nd,rfl⟩⟩;(try first|exact ⟨rfl,_,dD _ _ _⟩|exact ⟨rfl,_,Eq.trans (dD _ _ _) (congrArg (World.drewN _) (nA _ _ _))⟩)))
  repeat (go_quiet (first|(go_at_call 24;(with_reducible refine (spec_l1In.calls (l0.length : Int) 1 6 true _ A2.out).mono ?_);rintro e w' ⟨rfl,⟨nd,rfl⟩⟩;(try first|exact ⟨rfl,_,dD _ _ _⟩|exact ⟨rfl,_,Eq.trans (dD _ _ _) (congrArg (World.drewN _) (nA _ _ _))⟩)));try go_wp2_with (first|(go_at_call 24;(with_reducible refine (spec_l1In.calls (l0.length : Int) 1 6 true _ A2.out).mono ?_);rintro e w' ⟨rfl,⟨nd,rfl⟩⟩;(try first|exact ⟨rfl,_,dD _ _ _⟩|exact ⟨rfl,_,Eq.trans (dD _ _ _) (congrArg (World.drewN _) (nA _ _ _))⟩))))
  go_loopg [3] k (fun kq v3 w' => ∃ (x3_1 : Int), v3 = .int .i64 x3_1 ∧ Aside0 (spec_NetOk.l0 kq l0 x3_1 = some r) ∧ Aside0 (kq ≤ k) ∧ Drawn0 w w')
  case atStart => exact ⟨(0), (by first|rfl|(simp; done)|(simp [*]; done)), H', ⟨Nat.le_refl _⟩, by repeat (first|exact Drawn0.refl _|apply Drawn0.step)⟩
  case round =>
   clear H'
   try clear p2
   try clear c3
   obtain ⟨x3_1, rfl, HA, HK1, ⟨m1, rfl⟩⟩ := hrel
   cases gk with
   | zero => exact absurd HA.out (by simp [spec_NetOk.l0])
   | succ k1 =>
    have H := HA.out
    clear HA
    simp only [spec_NetOk.l0] at H
    by_cases c4 : x3_1 < (l0.length : Int)
    ·rw [if_pos c4] at H
     have c4b0 : decide (x3_1 < (l0.length : Int)) = true := decide_eq_true c4
     clear c4
     by_cases c5 : 0 ≤ x3_1
     ·rw [if_pos c5] at H
      have c5b0 : decide (0 ≤ x3_1) = true := decide_eq_true c5
      clear c5
      obtain ⟨ji6, hji6⟩ : ∃ j_ : Int, (shl .i64 1 (l0.length : Int)) = j_ := ⟨_, rfl⟩
      replace H : ((spec_l1In.f (rd l0 x3_1) 0 (wrap64 ((ji6) - 1))).bind fun t107 => (if t107 = true then (spec_NetOk.l0 k1 l0 (wrap64 (x3_1 + 1))) else (some false))) = some r := by first|(rw [hji6] at H; exact H)|(simp only [hji6] at H ⊢; exact H)
      have hji6_ : (IntKind.i64.wrap (1 * 2 ^ min (l0.length : Int).toNat 64)) = ji6 := hji6
      have hji6z : (l0.length : Int) ≤ 64 → (IntKind.i64.wrap (1 * 2 ^ (l0.length : Int).toNat)) = ji6 := shl_small hji6
      have hji6p : (IntKind.i64.wrap (1 * 2 ^ min l0.length 64)) = ji6 := hji6_
      have hji6q : (l0.length : Int) ≤ 64 → (IntKind.i64.wrap (1 * 2 ^ l0.length)) = ji6 := hji6z
      have hji6r : (IntKind.i64.wrap (2 ^ min l0.length 64)) = ji6 := by have h_ := hji6p; rw [Int.one_mul] at h_; exact h_
      have hji6s : (l0.length : Int) ≤ 64 → (IntKind.i64.wrap (2 ^ l0.length)) = ji6 := fun hle_ => by have h_ := hji6q hle_; rw [Int.one_mul] at h_; exact h_
      have hji6u : (IntKind.i64.wrap (2 ^ min (l0.length : Int).toNat 64)) = ji6 := by have h_ := hji6_; rw [Int.one_mul] at h_; exact h_
      have hji6v : (l0.length : Int) ≤ 64 → (IntKind.i64.wrap (2 ^ (l0.length : Int).toNat)) = ji6 := fun hle_ => by have h_ := hji6z hle_; rw [Int.one_mul] at h_; exact h_
      have hji6y : (wrap64 (1 * 2 ^ min (l0.length : Int).toNat 64)) = ji6 := (i64_w _).symm.trans hji6_
      have hji6x : (l0.length : Int) ≤ 64 → (wrap64 (1 * 2 ^ (l0.length : Int).toNat)) = ji6 := fun h_ => (i64_w _).symm.trans (hji6z h_)
      replace H := Option.bind_eq_some_iff.mp H
      obtain ⟨t107, A70, H⟩ := H
      replace H : (if t107 = true then (spec_NetOk.l0 k1 l0 (wrap64 (x3_1 + 1))) else (some false)) = some r := H
      have A7 := Aside0.mk A70
      clear A70
      by_cases c8 : t107 = true
      ·subst c8
       have H1 : (spec_NetOk.l0 k1 l0 (wrap64 (x3_1 + 1))) = some r := by rw [if_pos rfl] at H; exact H
       clear H
       have H := H1
       clear H1
       have H' := Aside0.mk H
       clear H
       have p106 : 0 ≤ (x3_1 : Int) := oD (by first|(with_reducible assumption)|assumption)
       have q106 : x3_1 < (l0.length : Int) := oD (by first|(with_reducible assumption)|assumption)
       obtain ⟨ad106, e106, hx106_0⟩ := aI HR0.out x3_1 p106 q106
       cases e106
       replace p106 := eq_true p106
       replace q106 := eq_true q106
       go_wp2_with (first|(go_at_call 24;(with_reducible refine (spec_l1In.calls (rd l0 x3_1) 0 (wrap64 ((ji6) - 1)) true _ A7.out).mono ?_);rintro e w' ⟨rfl,⟨nd,rfl⟩⟩;(try first|exact ⟨rfl,_,dD _ _ _⟩|exact ⟨rfl,_,Eq.trans (dD _ _ _) (congrArg (World.drewN _) (nA _ _ _))⟩)))
       repeat (go_quiet (first|(go_at_call 24;(with_reducible refine (spec_l1In.calls (rd l0 x3_1) 0 (wrap64 ((ji6) - 1)) true _ A7.out).mono ?_);rintro e w' ⟨rfl,⟨nd,rfl⟩⟩;(try first|exact ⟨rfl,_,dD _ _ _⟩|exact ⟨rfl,_,Eq.trans (dD _ _ _) (congrArg (World.drewN _) (nA _ _ _))⟩)));try go_wp2_with (first|(go_at_call 24;(with_reducible refine (spec_l1In.calls (rd l0 x3_1) 0 (wrap64 ((ji6) - 1)) true _ A7.out).mono ?_);rintro e w' ⟨rfl,⟨nd,rfl⟩⟩;(try first|exact ⟨rfl,_,dD _ _ _⟩|exact ⟨rfl,_,Eq.trans (dD _ _ _) (congrArg (World.drewN _) (nA _ _ _))⟩))))
       go_roundg k1
       case measure => have := HK1.out; omega
       case rel => exact ⟨(wrap64 (x3_1 + 1)), (by first|rfl|(simp; done)|(simp [*]; done)), H', ⟨by have := HK1.out; omega⟩, by repeat (first|exact Drawn0.refl _|apply Drawn0.step)⟩
      ·replace c8 := Bool.eq_false_iff.mpr c8
       subst c8
       have H1 : (some false) = some r := by rw [if_neg (show ¬ (false = true) by decide)] at H; exact H
       clear H
       have H := H1
       clear H1
       obtain rfl := Option.some.inj H
       have p106 : 0 ≤ (x3_1 : Int) := oD (by first|(with_reducible assumption)|assumption)
       have q106 : x3_1 < (l0.length : Int) := oD (by first|(with_reducible assumption)|assumption)
       obtain ⟨ad106, e106, hx106_0⟩ := aI HR0.out x3_1 p106 q106
       cases e106
       replace p106 := eq_true p106
       replace q106 := eq_true q106
       go_wp2_with (first|(go_at_call 24;(with_reducible refine (spec_l1In.calls (rd l0 x3_1) 0 (wrap64 ((ji6) - 1)) false _ A7.out).mono ?_);rintro e w' ⟨rfl,⟨nd,rfl⟩⟩;(try first|exact ⟨rfl,_,dD _ _ _⟩|exact ⟨rfl,_,Eq.trans (dD _ _ _) (congrArg (World.drewN _) (nA _ _ _))⟩)))
       repeat (go_quiet (first|(go_at_call 24;(with_reducible refine (spec_l1In.calls (rd l0 x3_1) 0 (wrap64 ((ji6) - 1)) false _ A7.out).mono ?_);rintro e w' ⟨rfl,⟨nd,rfl⟩⟩;(try first|exact ⟨rfl,_,dD _ _ _⟩|exact ⟨rfl,_,Eq.trans (dD _ _ _) (congrArg (World.drewN _) (nA _ _ _))⟩)));try go_wp2_with (first|(go_at_call 24;(with_reducible refine (spec_l1In.calls (rd l0 x3_1) 0 (wrap64 ((ji6) - 1)) false _ A7.out).mono ?_);rintro e w' ⟨rfl,⟨nd,rfl⟩⟩;(try first|exact ⟨rfl,_,dD _ _ _⟩|exact ⟨rfl,_,Eq.trans (dD _ _ _) (congrArg (World.drewN _) (nA _ _ _))⟩))))
       go_ret
       exact ⟨by first|rfl|(simp; done)|(simp only [← hji6] <;> (first|rfl|simp))|(simp [*]; done), by repeat (first|exact Drawn0.refl _|apply Drawn0.step)⟩
     ·rw [if_neg c5] at H
      exact absurd H (by simp)
    ·rw [if_neg c4] at H
     have c4b0 : decide (x3_1 < (l0.length : Int)) = false := decide_eq_false c4
     clear c4
     have H' := Aside0.mk H
     clear H
     go_wp2
     repeat (go_quiet (fail);try go_wp2)
     go_loopg [4] k1 (fun kq v4 w' => ∃ (x4_2 : Int), v4 = .int .i64 x4_2 ∧ Aside0 (spec_NetOk.l1 kq l0 x4_2 = some r) ∧ Aside0 (kq ≤ k1) ∧ Drawn0 w w')
     case atStart => exact ⟨(0), (by first|rfl|(simp; done)|(simp [*]; done)), H', ⟨Nat.le_refl _⟩, by repeat (first|exact Drawn0.refl _|apply Drawn0.step)⟩
     case round =>
      clear H'
      try clear p1
      try clear q1
      try clear hx1
      try clear p2
      try clear c3
      try clear c4
      try clear c4b0
      try clear c5
      try clear c5b0
      try clear p6
      try clear c8
      try clear hx106_0
      try clear p106
      try clear p2
      try clear q106
      obtain ⟨x4_2, rfl, HA, HK2, ⟨m2, rfl⟩⟩ := hrel
      cases gk with
      | zero => exact absurd HA.out (by simp [spec_NetOk.l1])
      | succ k2 =>
       have H := HA.out
       clear HA
       simp only [spec_NetOk.l1] at H
       by_cases c9 : x4_2 < (l0.length : Int)
       ·rw [if_pos c9] at H
        have c9b0 : decide (x4_2 < (l0.length : Int)) = true := decide_eq_true c9
        clear c9
        have H' := Aside0.mk H
        clear H
        go_wp2
        repeat (go_quiet (fail);try go_wp2)
        go_loopg [5] k2 (fun kq v5 w' => ∃ (x5_3 : Int), v5 = .int .i64 x5_3 ∧ Aside0 (spec_NetOk.l2 kq l0 x4_2 x5_3 = some r) ∧ Aside0 (kq ≤ k2) ∧ Drawn0 w w')
        case atStart => exact ⟨(0), (by first|rfl|(simp; done)|(simp [*]; done)), H', ⟨Nat.le_refl _⟩, by repeat (first|exact Drawn0.refl _|apply Drawn0.step)⟩
        case round =>
         clear H'
         try clear p1
         try clear q1
         try clear hx1
         try clear p2
         try clear c3
         try clear c4
         try clear c4b0
         try clear c5
         try clear c5b0
         try clear p6
         try clear c8
         try clear c9
         try clear c9b0
         try clear hx106_0
         try clear p1
         try clear p106
         try clear p2
         try clear p6
         try clear q1
         try clear q106
         obtain ⟨x5_3, rfl, HA, HK3, ⟨m3, rfl⟩⟩ := hrel
         cases gk with
         | zero => exact absurd HA.out (by simp [spec_NetOk.l2])
         | succ k3 =>
          have H := HA.out
          clear HA
          simp only [spec_NetOk.l2] at H
          by_cases c10 : x5_3 < (l0.length : Int)
          ·rw [if_pos c10] at H
           have c10b0 : decide (x5_3 < (l0.length : Int)) = true := decide_eq_true c10
           clear c10
           by_cases c11 : 0 ≤ x4_2
           ·rw [if_pos c11] at H
            have c11b0 : decide (0 ≤ x4_2) = true := decide_eq_true c11
            clear c11
            by_cases c12 : x4_2 < (l0.length : Int)
            ·rw [if_pos c12] at H
             have c12b0 : decide (x4_2 < (l0.length : Int)) = true := decide_eq_true c12
             clear c12
             by_cases c13 : 0 ≤ x5_3
             ·rw [if_pos c13] at H
              have c13b0 := eq_true c13
              have c13b1 : decide (0 ≤ x5_3) = true := decide_eq_true c13
              clear c13
              obtain ⟨ji14, hji14⟩ : ∃ j_ : Int, (shr .i64 (rd l0 x4_2) x5_3) = j_ := ⟨_, rfl⟩
              replace H : (if (Int.tmod (ji14) 2) = (Int.tmod (shr .i64 (rd l0 x5_3) x4_2) 2) then (if x5_3 = x4_2 then (if (Int.tmod (ji14) 2) = 1 then (some false) else (spec_NetOk.l2 k3 l0 x4_2 (wrap64 (x5_3 + 1)))) else (spec_NetOk.l2 k3 l0 x4_2 (wrap64 (x5_3 + 1)))) else (some false)) = some r := by first|(rw [hji14] at H; exact H)|(simp only [hji14] at H ⊢; exact H)
              have hji14_ : ((rd l0 x4_2) / 2 ^ min x5_3.toNat 64) = ji14 := hji14
              have hji14z : x5_3 ≤ 64 → ((rd l0 x4_2) / 2 ^ x5_3.toNat) = ji14 := shr_small hji14
              have c15b0 := eq_true (oD (by first|(with_reducible assumption)|assumption) : 0 ≤ x4_2)
              obtain ⟨ji16, hji16⟩ : ∃ j_ : Int, (shr .i64 (rd l0 x5_3) x4_2) = j_ := ⟨_, rfl⟩
              replace H : (if (Int.tmod (ji14) 2) = (Int.tmod (ji16) 2) then (if x5_3 = x4_2 then (if (Int.tmod (ji14) 2) = 1 then (some false) else (spec_NetOk.l2 k3 l0 x4_2 (wrap64 (x5_3 + 1)))) else (spec_NetOk.l2 k3 l0 x4_2 (wrap64 (x5_3 + 1)))) else (some false)) = some r := by first|(rw [hji16] at H; exact H)|(simp only [hji16] at H ⊢; exact H)
              have hji16_ : ((rd l0 x5_3) / 2 ^ min x4_2.toNat 64) = ji16 := hji16
              have hji16z : x4_2 ≤ 64 → ((rd l0 x5_3) / 2 ^ x4_2.toNat) = ji16 := shr_small hji16
              by_cases c17 : (Int.tmod (ji14) 2) = (Int.tmod (ji16) 2)
              ·rw [if_pos c17] at H
               have c17b0 : ((Int.tmod (ji14) 2) == (Int.tmod (ji16) 2)) = true := beq_iff_eq.mpr c17
               have c17b1 : ((Int.tmod (ji14) 2) != (Int.tmod (ji16) 2)) = false := bne_eq_false_iff_eq.mpr c17
               clear c17
               by_cases c18 : x5_3 = x4_2
               ·rw [if_pos c18] at H
                have c18b0 : (x5_3 == x4_2) = true := beq_iff_eq.mpr c18
                have c18b1 : (x5_3 != x4_2) = false := bne_eq_false_iff_eq.mpr c18
                clear c18
                have c19b0 := eq_true (oD (by first|(with_reducible assumption)|assumption) : 0 ≤ x5_3)
                by_cases c20 : (Int.tmod (ji14) 2) = 1
                ·rw [if_pos c20] at H
                 have c20b0 : ((Int.tmod (ji14) 2) == 1) = true := beq_iff_eq.mpr c20
                 have c20b1 : ((Int.tmod (ji14) 2) != 1) = false := bne_eq_false_iff_eq.mpr c20
                 clear c20
                 obtain rfl := Option.some.inj H
                 have p108 : 0 ≤ (x4_2 : Int) := oD (by first|(with_reducible assumption)|assumption)
                 have q108 : x4_2 < (l0.length : Int) := oD (by first|(with_reducible assumption)|assumption)
                 obtain ⟨ad108, e108, hx108_0⟩ := aI HR0.out x4_2 p108 q108
                 cases e108
                 replace p108 := eq_true p108
                 replace q108 := eq_true q108
                 have p109 : 0 ≤ (x5_3 : Int) := oD (by first|(with_reducible assumption)|assumption)
                 have q109 : x5_3 < (l0.length : Int) := oD (by first|(with_reducible assumption)|assumption)
                 obtain ⟨ad109, e109, hx109_0⟩ := aI HR0.out x5_3 p109 q109
                 obtain rfl : ad108 = ad109 := (by injection e109)
                 replace p109 := eq_true p109
                 replace q109 := eq_true q109
                 have p110 : 0 ≤ (x4_2 : Int) := oD (by first|(with_reducible assumption)|assumption)
                 have q110 : x4_2 < (l0.length : Int) := oD (by first|(with_reducible assumption)|assumption)
                 obtain ⟨ad110, e110, hx110_0⟩ := aI HR0.out x4_2 p110 q110
                 obtain rfl : ad108 = ad110 := (by injection e110)
                 replace p110 := eq_true p110
                 replace q110 := eq_true q110
                 go_wp2
                 repeat (go_quiet (fail);try go_wp2)
                 go_ret
                 exact ⟨by first|rfl|(simp; done)|(simp only [← hji14, ← hji16] <;> (first|rfl|simp))|(simp [*]; done), by repeat (first|exact Drawn0.refl _|apply Drawn0.step)⟩
                ·rw [if_neg c20] at H
                 have c20b0 : ((Int.tmod (ji14) 2) == 1) = false := beq_eq_false_iff_ne.mpr c20
                 have c20b1 : ((Int.tmod (ji14) 2) != 1) = true := bne_iff_ne.mpr c20
                 have H' := Aside0.mk H
                 clear H
                 have p108 : 0 ≤ (x4_2 : Int) := oD (by first|(with_reducible assumption)|assumption)
                 have q108 : x4_2 < (l0.length : Int) := oD (by first|(with_reducible assumption)|assumption)
                 obtain ⟨ad108, e108, hx108_0⟩ := aI HR0.out x4_2 p108 q108
                 cases e108
                 replace p108 := eq_true p108
                 replace q108 := eq_true q108
                 have p109 : 0 ≤ (x5_3 : Int) := oD (by first|(with_reducible assumption)|assumption)
                 have q109 : x5_3 < (l0.length : Int) := oD (by first|(with_reducible assumption)|assumption)
                 obtain ⟨ad109, e109, hx109_0⟩ := aI HR0.out x5_3 p109 q109
                 obtain rfl : ad108 = ad109 := (by injection e109)
                 replace p109 := eq_true p109
                 replace q109 := eq_true q109
                 have p110 : 0 ≤ (x4_2 : Int) := oD (by first|(with_reducible assumption)|assumption)
                 have q110 : x4_2 < (l0.length : Int) := oD (by first|(with_reducible assumption)|assumption)
                 obtain ⟨ad110, e110, hx110_0⟩ := aI HR0.out x4_2 p110 q110
                 obtain rfl : ad108 = ad110 := (by injection e110)
                 replace p110 := eq_true p110
                 replace q110 := eq_true q110
                 go_wp2
                 repeat (go_quiet (fail);try go_wp2)
                 go_roundg k3
                 case measure => have := HK1.out; have := HK2.out; have := HK3.out; omega
                 case rel => exact ⟨(wrap64 (x5_3 + 1)), (by first|rfl|(simp; done)|(simp [*]; done)), H', ⟨by have := HK1.out; have := HK2.out; have := HK3.out; omega⟩, by repeat (first|exact Drawn0.refl _|apply Drawn0.step)⟩
               ·rw [if_neg c18] at H
                have c18b0 : (x5_3 == x4_2) = false := beq_eq_false_iff_ne.mpr c18
                have c18b1 : (x5_3 != x4_2) = true := bne_iff_ne.mpr c18
                have H' := Aside0.mk H
                clear H
                have p108 : 0 ≤ (x4_2 : Int) := oD (by first|(with_reducible assumption)|assumption)
                have q108 : x4_2 < (l0.length : Int) := oD (by first|(with_reducible assumption)|assumption)
                obtain ⟨ad108, e108, hx108_0⟩ := aI HR0.out x4_2 p108 q108
                cases e108
                replace p108 := eq_true p108
                replace q108 := eq_true q108
                have p109 : 0 ≤ (x5_3 : Int) := oD (by first|(with_reducible assumption)|assumption)
                have q109 : x5_3 < (l0.length : Int) := oD (by first|(with_reducible assumption)|assumption)
                obtain ⟨ad109, e109, hx109_0⟩ := aI HR0.out x5_3 p109 q109
                obtain rfl : ad108 = ad109 := (by injection e109)
                replace p109 := eq_true p109
                replace q109 := eq_true q109
                go_wp2
                repeat (go_quiet (fail);try go_wp2)
                go_roundg k3
                case measure => have := HK1.out; have := HK2.out; have := HK3.out; omega
                case rel => exact ⟨(wrap64 (x5_3 + 1)), (by first|rfl|(simp; done)|(simp [*]; done)), H', ⟨by have := HK1.out; have := HK2.out; have := HK3.out; omega⟩, by repeat (first|exact Drawn0.refl _|apply Drawn0.step)⟩
              ·rw [if_neg c17] at H
               have c17b0 : ((Int.tmod (ji14) 2) == (Int.tmod (ji16) 2)) = false := beq_eq_false_iff_ne.mpr c17
               have c17b1 : ((Int.tmod (ji14) 2) != (Int.tmod (ji16) 2)) = true := bne_iff_ne.mpr c17
               obtain rfl := Option.some.inj H
               have p108 : 0 ≤ (x4_2 : Int) := oD (by first|(with_reducible assumption)|assumption)
               have q108 : x4_2 < (l0.length : Int) := oD (by first|(with_reducible assumption)|assumption)
               obtain ⟨ad108, e108, hx108_0⟩ := aI HR0.out x4_2 p108 q108
               cases e108
               replace p108 := eq_true p108
               replace q108 := eq_true q108
               have p109 : 0 ≤ (x5_3 : Int) := oD (by first|(with_reducible assumption)|assumption)
               have q109 : x5_3 < (l0.length : Int) := oD (by first|(with_reducible assumption)|assumption)
               obtain ⟨ad109, e109, hx109_0⟩ := aI HR0.out x5_3 p109 q109
               obtain rfl : ad108 = ad109 := (by injection e109)
               replace p109 := eq_true p109
               replace q109 := eq_true q109
               go_wp2
               repeat (go_quiet (fail);try go_wp2)
               go_ret
               exact ⟨by first|rfl|(simp; done)|(simp only [← hji14, ← hji16] <;> (first|rfl|simp))|(simp [*]; done), by repeat (first|exact Drawn0.refl _|apply Drawn0.step)⟩
             ·rw [if_neg c13] at H
              exact absurd H (by simp)
            ·rw [if_neg c12] at H
             exact absurd H (by simp)
           ·rw [if_neg c11] at H
            exact absurd H (by simp)
          ·rw [if_neg c10] at H
           have c10b0 : decide (x5_3 < (l0.length : Int)) = false := decide_eq_false c10
           clear c10
           have H' := Aside0.mk H
           clear H
           go_wp2
           repeat (go_quiet (fail);try go_wp2)
           go_roundg k3
           case measure => have := HK1.out; have := HK2.out; have := HK3.out; omega
           case rel => exact ⟨(wrap64 (x4_2 + 1)), (by first|rfl|(simp; done)|(simp [*]; done)), H', ⟨by have := HK1.out; have := HK2.out; have := HK3.out; omega⟩, by repeat (first|exact Drawn0.refl _|apply Drawn0.step)⟩
       ·rw [if_neg c9] at H
        have c9b0 : decide (x4_2 < (l0.length : Int)) = false := decide_eq_false c9
        clear c9
        obtain rfl := Option.some.inj H
        go_wp2
        repeat (go_quiet (fail);try go_wp2)
        go_ret
        exact ⟨by first|rfl|(simp; done)|(simp [*]; done), by repeat (first|exact Drawn0.refl _|apply Drawn0.step)⟩
 ·replace c3 := Bool.eq_false_iff.mpr c3
  subst c3
  have H1 : (some false) = some r := by rw [if_neg (show ¬ (false = true) by decide)] at H; exact H
  clear H
  have H := H1
  clear H1
  obtain rfl := Option.some.inj H
  go_enter Try.func38, Try.ntmps38
  go_wp2_with (first|(go_at_call 24;(with_reducible refine (spec_l1In.calls (l0.length : Int) 1 6 false _ A2.out).mono ?_);rintro e w' ⟨rfl,⟨nd,rfl⟩⟩;(try first|exact ⟨rfl,_,dD _ _ _⟩|exact ⟨rfl,_,Eq.trans (dD _ _ _) (congrArg (World.drewN _) (nA _ _ _))⟩)))
  repeat (go_quiet (first|(go_at_call 24;(with_reducible refine (spec_l1In.calls (l0.length : Int) 1 6 false _ A2.out).mono ?_);rintro e w' ⟨rfl,⟨nd,rfl⟩⟩;(try first|exact ⟨rfl,_,dD _ _ _⟩|exact ⟨rfl,_,Eq.trans (dD _ _ _) (congrArg (World.drewN _) (nA _ _ _))⟩)));try go_wp2_with (first|(go_at_call 24;(with_reducible refine (spec_l1In.calls (l0.length : Int) 1 6 false _ A2.out).mono ?_);rintro e w' ⟨rfl,⟨nd,rfl⟩⟩;(try first|exact ⟨rfl,_,dD _ _ _⟩|exact ⟨rfl,_,Eq.trans (dD _ _ _) (congrArg (World.drewN _) (nA _ _ _))⟩))))
  go_ret
  exact ⟨by first|rfl|(simp; done)|(simp [*]; done), by repeat (first|exact Drawn0.refl _|apply Drawn0.step)⟩

/-! ### spec_l3Ok: function 23 -/
def spec_l3Ok.f (k : Nat) (l0 : List Int) (a1 : Int) (l2 : List Int) : Option (Bool) := (spec_NetOk.f k l0).bind fun t111 => (if t111 = true then ((spec_StateOk.f k a1 l2).bind fun t112 => (if t112 = true then (some ((l2.length : Int) == (l0.length : Int))) else (some false))) else (some false))
theorem spec_l3Ok.mono : ∀ a0 a1 a2 k, LeO (spec_l3Ok.f k a0 a1 a2) (spec_l3Ok.f (k + 1) a0 a1 a2) := by
 intro a0 a1 a2 k
 unfold spec_l3Ok.f
 repeat' first|(with_reducible first|exact spec_NetOk.mono _ _|exact spec_StateOk.mono _ _ _|exact LeO.refl _|exact LeO.none _|refine LeO.ite ?_ ?_|refine LeO.bind ?_ (fun _ => ?_))|exact spec_NetOk.mono _ _|exact spec_StateOk.mono _ _ _|exact LeO.none _|refine LeO.ite ?_ ?_|refine LeO.bind ?_ (fun _ => ?_)
set_option maxHeartbeats 8000000 in
set_option maxRecDepth 100000 in
theorem spec_l3Ok.calls (k : Nat) (A0 : Option Addr) (c0 : Nat) (l0 : List Int) (a1 : Int) (A2 : Option Addr) (c2 : Nat) (l2 : List Int) (r : Bool) (w : World) (hr0 : Kd.C (Kd.int .i64) w A0 l0.length l0) (hc0 : l0.length ≤ c0) (hr2 : Kd.C (Kd.int .i64) w A2 l2.length l2) (hc2 : l2.length ≤ c2) (h : spec_l3Ok.f k l0 a1 l2 = some r) :
  Calls Try.prog 23 #[.slice A0 l0.length c0, .int .i64 a1, .slice A2 l2.length c2] w fun e w' => e = .returned (.bool r) ∧ Drawn0 w w' := by
 have HR0 := Aside0.mk hr0
 have HC0 := Aside0.mk hc0
 clear hr0 hc0
 have HR2 := Aside0.mk hr2
 have HC2 := Aside0.mk hc2
 clear hr2 hc2
 have H : ((spec_NetOk.f k l0).bind fun t111 => (if t111 = true then ((spec_StateOk.f k a1 l2).bind fun t112 => (if t112 = true then (some ((l2.length : Int) == (l0.length : Int))) else (some false))) else (some false))) = some r := h
 clear h
 replace H := Option.bind_eq_some_iff.mp H
 obtain ⟨t111, A40, H⟩ := H
 replace H : (if t111 = true then ((spec_StateOk.f k a1 l2).bind fun t112 => (if t112 = true then (some ((l2.length : Int) == (l0.length : Int))) else (some false))) else (some false)) = some r := H
 have A4 := Aside0.mk A40
 clear A40
 by_cases c5 : t111 = true
 ·subst c5
  have H1 : ((spec_StateOk.f k a1 l2).bind fun t112 => (if t112 = true then (some ((l2.length : Int) == (l0.length : Int))) else (some false))) = some r := by rw [if_pos rfl] at H; exact H
  clear H
  have H := H1
  clear H1
  replace H := Option.bind_eq_some_iff.mp H
  obtain ⟨t112, A60, H⟩ := H
  replace H : (if t112 = true then (some ((l2.length : Int) == (l0.length : Int))) else (some false)) = some r := H
  have A6 := Aside0.mk A60
  clear A60
  by_cases c7 : t112 = true
  ·subst c7
   have H1 : (some ((l2.length : Int) == (l0.length : Int))) = some r := by rw [if_pos rfl] at H; exact H
   clear H
   have H := H1
   clear H1
   obtain rfl := Option.some.inj H
   go_enter Try.func23, Try.ntmps23
   go_wp2_with (first|((with_reducible refine gate_callee (f:=38) rfl ?_);refine goesL_ (some 8) rfl rfl Try.func38 (by kernel_rfl) rfl #[.slice A0 l0.length c0] rfl (by (try simp only [List.map_toArray,List.map_cons,List.map_nil]);first|done|rfl|(simp only [List.length_drop,List.length_take];rfl)) ?_;(with_reducible refine (spec_NetOk.calls k _ _ l0 true _ ?side1 ?side2 A4.out).mono ?_);(case side1 => repeat (first|exact HR0.out|(with_reducible first|refine cA ?_ _|refine cN ?_ _|refine cD ?_)));(case side2 => exact HC0.out);rintro e w' ⟨rfl,⟨nd,rfl⟩⟩;refine ⟨_,rfl,?_⟩)|(go_at_call 36;(with_reducible refine (spec_StateOk.calls k a1 _ _ l2 true _ ?side1 ?side2 A6.out).mono ?_);(case side1 => repeat (first|exact HR2.out|(with_reducible first|refine cA ?_ _|refine cN ?_ _|refine cD ?_)));(case side2 => exact HC2.out);rintro e w' ⟨rfl,⟨nd,rfl⟩⟩))
   go_ret
   exact ⟨by first|rfl|(simp; done)|(simp [*]; done), by repeat (first|exact Drawn0.refl _|apply Drawn0.step)⟩
  ·replace c7 := Bool.eq_false_iff.mpr c7
   subst c7
   have H1 : (some false) = some r := by rw [if_neg (show ¬ (false = true) by decide)] at H; exact H
   clear H
   have H := H1
   clear H1
   obtain rfl := Option.some.inj H
   go_enter Try.func23, Try.ntmps23
   go_wp2_with (first|((with_reducible refine gate_callee (f:=38) rfl ?_);refine goesL_ (some 8) rfl rfl Try.func38 (by kernel_rfl) rfl #[.slice A0 l0.length c0] rfl (by (try simp only [List.map_toArray,List.map_cons,List.map_nil]);first|done|rfl|(simp only [List.length_drop,List.length_take];rfl)) ?_;(with_reducible refine (spec_NetOk.calls k _ _ l0 true _ ?side1 ?side2 A4.out).mono ?_);(case side1 => repeat (first|exact HR0.out|(with_reducible first|refine cA ?_ _|refine cN ?_ _|refine cD ?_)));(case side2 => exact HC0.out);rintro e w' ⟨rfl,⟨nd,rfl⟩⟩;refine ⟨_,rfl,?_⟩)|(go_at_call 36;(with_reducible refine (spec_StateOk.calls k a1 _ _ l2 false _ ?side1 ?side2 A6.out).mono ?_);(case side1 => repeat (first|exact HR2.out|(with_reducible first|refine cA ?_ _|refine cN ?_ _|refine cD ?_)));(case side2 => exact HC2.out);rintro e w' ⟨rfl,⟨nd,rfl⟩⟩))
   go_ret
   exact ⟨by first|rfl|(simp; done)|(simp [*]; done), by repeat (first|exact Drawn0.refl _|apply Drawn0.step)⟩
 ·replace c5 := Bool.eq_false_iff.mpr c5
  subst c5
  have H1 : (some false) = some r := by rw [if_neg (show ¬ (false = true) by decide)] at H; exact H
  clear H
  have H := H1
  clear H1
  obtain rfl := Option.some.inj H
  go_enter Try.func23, Try.ntmps23
  go_wp2_with (first|((with_reducible refine gate_callee (f:=38) rfl ?_);refine goesL_ (some 8) rfl rfl Try.func38 (by kernel_rfl) rfl #[.slice A0 l0.length c0] rfl (by (try simp only [List.map_toArray,List.map_cons,List.map_nil]);first|done|rfl|(simp only [List.length_drop,List.length_take];rfl)) ?_;(with_reducible refine (spec_NetOk.calls k _ _ l0 false _ ?side1 ?side2 A4.out).mono ?_);(case side1 => repeat (first|exact HR0.out|(with_reducible first|refine cA ?_ _|refine cN ?_ _|refine cD ?_)));(case side2 => exact HC0.out);rintro e w' ⟨rfl,⟨nd,rfl⟩⟩;refine ⟨_,rfl,?_⟩))
  go_ret
  exact ⟨by first|rfl|(simp; done)|(simp [*]; done), by repeat (first|exact Drawn0.refl _|apply Drawn0.step)⟩

/-! ### spec_l6Rise: function 26 -/
def spec_l6Rise.f (a0 : Int) (a1 : Int) : Option (Int) := some (wrap64 ((Int.tmod (wrap64 ((wrap64 ((wrap64 (a1 - a0)) + 3)) + 1)) 3) - 1))
set_option maxHeartbeats 8000000 in
set_option maxRecDepth 100000 in
theorem spec_l6Rise.calls (a0 : Int) (a1 : Int) (r : Int) (w : World) (h : spec_l6Rise.f a0 a1 = some r) :
  Calls Try.prog 26 #[.int .i64 a0, .int .i64 a1] w fun e w' => e = .returned (.int .i64 r) ∧ Drawn0 w w' := by
 have H : (some (wrap64 ((Int.tmod (wrap64 ((wrap64 ((wrap64 (a1 - a0)) + 3)) + 1)) 3) - 1))) = some r := h
 clear h
 obtain rfl := Option.some.inj H
 go_enter Try.func26, Try.ntmps26
 go_wp2
 go_ret
 exact ⟨by first|rfl|(simp; done)|(simp [*]; done), by repeat (first|exact Drawn0.refl _|apply Drawn0.step)⟩

end Go.Proofs.Ytkofidpgbmajdaa.PFnBestTour
