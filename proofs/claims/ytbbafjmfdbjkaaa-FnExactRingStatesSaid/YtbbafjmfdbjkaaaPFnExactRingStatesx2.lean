-- Written by a program of this session (the kit's print, changed).
import Derived.Test.YtbbafjmfdbjkaaaPFnExactRingStatesx0
import Derived.Test.YtbbafjmfdbjkaaaPFnExactRingStatesx1
namespace Go.Proofs.Ytbbafjmfdbjkaaa.PFnExactRingStates
open Go.RowKit Go.Proofs.YtbbafjmfdbjkaaaW.PrintWords Go.Proofs.YtbbafjmfdbjkaaaW.PrintLast Go.Proofs.YtbbafjmfdbjkaaaW.PrintMore
attribute [local go_sem] max2_int min2_int max_two min_two max_three min_three max_four min_four   -- for this text's walks alone
set_option linter.unusedVariables false
set_option linter.unusedSimpArgs false

/-! ### impl_StateOf: function 18 -/
mutual
def impl_StateOf.j0 : Nat → Int → Int → Int → Bool → Option (List Int)
  | 0, _, _, _, _ => none
  | k + 1, x0, x1, x2, x25 => if x25 = true then (some ([] : List Int)) else (impl_StateOf.l0 k x1 x2 (([] : List Int)) x0 0)
def impl_StateOf.l0 : Nat → Int → Int → List Int → Int → Int → Option (List Int)
  | 0, _, _, _, _, _ => none
  | k + 1, x1, x2, x7, x27, x28 => if x28 < x27 then (if x1 = 0 then (none) else (if x7.length < 17592186044416 then (impl_StateOf.l0 k x1 (wrap64 (Int.tdiv x2 x1)) (x7 ++ [Int.tmod x2 x1]) x27 (wrap64 (x28 + 1))) else (none))) else (if x2 > 0 then (some ([] : List Int)) else (some x7))
end
def impl_StateOf.f (k : Nat) (a0 : Int) (a1 : Int) (a2 : Int) : Option (List Int) := if a0 < 1 then (impl_StateOf.j0 k a0 a1 a2 true) else (if a0 > 6 then (impl_StateOf.j0 k a0 a1 a2 true) else (if a1 < 3 then (impl_StateOf.j0 k a0 a1 a2 true) else (if a1 > 5 then (impl_StateOf.j0 k a0 a1 a2 true) else (impl_StateOf.j0 k a0 a1 a2 (decide (a2 < 0))))))
theorem impl_StateOf.mono_l : ∀ k, (∀ y0 y1 y2 y3, LeO (impl_StateOf.j0 k y0 y1 y2 y3) (impl_StateOf.j0 (k + 1) y0 y1 y2 y3)) ∧ (∀ y0 y1 y2 y3 y4, LeO (impl_StateOf.l0 k y0 y1 y2 y3 y4) (impl_StateOf.l0 (k + 1) y0 y1 y2 y3 y4))
  | 0 => ⟨fun _ _ _ _ r h => by simp [impl_StateOf.j0] at h, fun _ _ _ _ _ r h => by simp [impl_StateOf.l0] at h⟩
  | k + 1 => by
    obtain ⟨ih0, ih1⟩ := impl_StateOf.mono_l k
    refine ⟨?_, ?_⟩
    · intro y0 y1 y2 y3
      unfold impl_StateOf.j0
      repeat' first
      | (with_reducible exact ih0 _ _ _ _)
      | (with_reducible exact ih1 _ _ _ _ _)
      | (with_reducible exact LeO.refl _)
      | (with_reducible exact LeO.none _)
      | (with_reducible refine LeO.ite ?_ ?_)
      | (with_reducible refine LeO.bind ?_ (fun _ => ?_))
      | exact ih0 _ _ _ _
      | exact ih1 _ _ _ _ _
      | exact LeO.none _
      | refine LeO.ite ?_ ?_
      | refine LeO.bind ?_ (fun _ => ?_)
    · intro y0 y1 y2 y3 y4
      unfold impl_StateOf.l0
      repeat' first
      | (with_reducible exact ih0 _ _ _ _)
      | (with_reducible exact ih1 _ _ _ _ _)
      | (with_reducible exact LeO.refl _)
      | (with_reducible exact LeO.none _)
      | (with_reducible refine LeO.ite ?_ ?_)
      | (with_reducible refine LeO.bind ?_ (fun _ => ?_))
      | exact ih0 _ _ _ _
      | exact ih1 _ _ _ _ _
      | exact LeO.none _
      | refine LeO.ite ?_ ?_
      | refine LeO.bind ?_ (fun _ => ?_)
theorem impl_StateOf.mono : ∀ a0 a1 a2 k, LeO (impl_StateOf.f k a0 a1 a2) (impl_StateOf.f (k + 1) a0 a1 a2) := by
  intro a0 a1 a2 k
  obtain ⟨ih0, ih1⟩ := impl_StateOf.mono_l k
  unfold impl_StateOf.f
  repeat' first
      | (with_reducible exact ih0 _ _ _ _)
      | (with_reducible exact ih1 _ _ _ _ _)
      | (with_reducible exact LeO.refl _)
      | (with_reducible exact LeO.none _)
      | (with_reducible refine LeO.ite ?_ ?_)
      | (with_reducible refine LeO.bind ?_ (fun _ => ?_))
      | exact ih0 _ _ _ _
      | exact ih1 _ _ _ _ _
      | exact LeO.none _
      | refine LeO.ite ?_ ?_
      | refine LeO.bind ?_ (fun _ => ?_)
set_option maxHeartbeats 8000000 in
set_option maxRecDepth 100000 in
theorem impl_StateOf.calls (k : Nat) (a0 : Int) (a1 : Int) (a2 : Int) (r : List Int) (w : World) (h : impl_StateOf.f k a0 a1 a2 = some r) :
    Calls Try.prog 18 #[.int .i64 a0, .int .i64 a1, .int .i64 a2] w fun e w' => ∃ v0_ : Value, e = .returned (v0_) ∧ Kd.R (Kd.int .i64) 3 w' w.heap.size (fun _ => True) v0_ r ∧ Below w.heap.size w w' := by
  have HB := Aside0.mk (Below.refl w.heap.size w)
  have H : (if a0 < 1 then (impl_StateOf.j0 k a0 a1 a2 true) else (if a0 > 6 then (impl_StateOf.j0 k a0 a1 a2 true) else (if a1 < 3 then (impl_StateOf.j0 k a0 a1 a2 true) else (if a1 > 5 then (impl_StateOf.j0 k a0 a1 a2 true) else (impl_StateOf.j0 k a0 a1 a2 (decide (a2 < 0))))))) = some r := h
  clear h
  have HC4 := Aside0.mk H
  clear H
  go_enter Try.func18, Try.ntmps18
  go_upto_region 1 with (fail)
  go_cut [25] (fun v25 wc => ∃ (kq : Nat) (x25_3 : Bool), v25 = .bool x25_3 ∧ Aside0 (impl_StateOf.j0 kq a0 a1 a2 x25_3 = some r) ∧ Aside0 (kq ≤ k) ∧ Aside0 (Below w.heap.size w wc))
  case first =>
    have H := HC4.out
    clear HC4
    by_cases c5 : a0 < 1
    · rw [if_pos c5] at H
      have c5b0 : decide (a0 < 1) = true := decide_eq_true c5
      clear c5
      (first | rw [c5b0] | (simp only [i64_w, i32_w]; rw [c5b0]) | skip)
      have H' := Aside0.mk H
      clear H
      go_wp2
      go_meet
      case rel => exact ⟨_, (true), (by first | rfl | (simp; done) | (simp [*]; done)), H', ⟨by first | omega | exact Nat.le_refl _⟩, ⟨by repeat (first | (with_reducible first | exact HB.out | apply below_alloc | apply pw_below_drewN | apply below_drew1) | exact HB.out)⟩⟩
    · rw [if_neg c5] at H
      have c5b0 : decide (a0 < 1) = false := decide_eq_false c5
      clear c5
      (first | rw [c5b0] | (simp only [i64_w, i32_w]; rw [c5b0]) | skip)
      by_cases c6 : a0 > 6
      · rw [if_pos c6] at H
        have c6b0 : decide (6 < a0) = true := decide_eq_true c6
        clear c6
        have H' := Aside0.mk H
        clear H
        go_wp2
        go_meet
        case rel => exact ⟨_, (true), (by first | rfl | (simp; done) | (simp [*]; done)), H', ⟨by first | omega | exact Nat.le_refl _⟩, ⟨by repeat (first | (with_reducible first | exact HB.out | apply below_alloc | apply pw_below_drewN | apply below_drew1) | exact HB.out)⟩⟩
      · rw [if_neg c6] at H
        have c6b0 : decide (6 < a0) = false := decide_eq_false c6
        clear c6
        by_cases c7 : a1 < 3
        · rw [if_pos c7] at H
          have c7b0 : decide (a1 < 3) = true := decide_eq_true c7
          clear c7
          have H' := Aside0.mk H
          clear H
          go_wp2
          go_meet
          case rel => exact ⟨_, (true), (by first | rfl | (simp; done) | (simp [*]; done)), H', ⟨by first | omega | exact Nat.le_refl _⟩, ⟨by repeat (first | (with_reducible first | exact HB.out | apply below_alloc | apply pw_below_drewN | apply below_drew1) | exact HB.out)⟩⟩
        · rw [if_neg c7] at H
          have c7b0 : decide (a1 < 3) = false := decide_eq_false c7
          clear c7
          by_cases c8 : a1 > 5
          · rw [if_pos c8] at H
            have c8b0 : decide (5 < a1) = true := decide_eq_true c8
            clear c8
            have H' := Aside0.mk H
            clear H
            go_wp2
            go_meet
            case rel => exact ⟨_, (true), (by first | rfl | (simp; done) | (simp [*]; done)), H', ⟨by first | omega | exact Nat.le_refl _⟩, ⟨by repeat (first | (with_reducible first | exact HB.out | apply below_alloc | apply pw_below_drewN | apply below_drew1) | exact HB.out)⟩⟩
          · rw [if_neg c8] at H
            have c8b0 : decide (5 < a1) = false := decide_eq_false c8
            clear c8
            have H' := Aside0.mk H
            clear H
            go_wp2
            go_meet
            case rel => exact ⟨_, (decide (a2 < 0)), (by first | rfl | (simp; done) | (simp [*]; done)), H', ⟨by first | omega | exact Nat.le_refl _⟩, ⟨by repeat (first | (with_reducible first | exact HB.out | apply below_alloc | apply pw_below_drewN | apply below_drew1) | exact HB.out)⟩⟩
  case rest =>
    clear HC4
    try clear c1
    try clear p2
    try clear c5
    try clear c5b0
    try clear c6
    try clear c6b0
    try clear c7
    try clear c7b0
    try clear c8
    try clear c8b0
    obtain ⟨kq, x25_3, rfl, HA, HJ3, HB⟩ := hcut
    cases kq with
    | zero => exact absurd HA.out (by simp [impl_StateOf.j0])
    | succ kj3 =>
      have H := HA.out
      clear HA
      simp only [impl_StateOf.j0] at H
      by_cases c9 : x25_3 = true
      · subst c9
        have H1 : (some ([] : List Int)) = some r := by rw [if_pos rfl] at H; exact H
        clear H
        have H := H1
        clear H1
        obtain rfl := Option.some.inj H
        go_wp2
        go_ret
        exact ⟨_, by first | rfl | (simp [errW_none, errW_some] <;> rfl) | (simp [*, errW_none, errW_some] <;> rfl), by first | exact Kd.R_nil _ _ _ _ _ | exact Kd.N_nil _ _ _ _ _ | exact Kd.V_nil _ _ _ _ _ | exact Kd.Q_nil _ _ _ _ _ | exact Kd.S_nil _ _ _ _ _, by repeat (first | (with_reducible first | exact HB.out | apply below_alloc | apply pw_below_drewN | apply below_drew1) | exact HB.out)⟩
      · replace c9 := Bool.eq_false_iff.mpr c9
        subst c9
        have H1 : (impl_StateOf.l0 kj3 a1 a2 (([] : List Int)) a0 0) = some r := by rw [if_neg (show ¬ (false = true) by decide)] at H; exact H
        clear H
        have H := H1
        clear H1
        obtain ⟨y118, hy118⟩ : ∃ y_ : List Int, y_ = (([] : List Int)) := ⟨_, rfl⟩
        replace H : (impl_StateOf.l0 kj3 a1 a2 y118 a0 0) = some r := by first | (rw [hy118]; with_reducible exact H) | (have H2_ := (Option.bind_some _ _).symm.trans H; rw [hy118]; with_reducible exact H2_) | (have H2_ := (Option.bind_some _ _).symm.trans H; with_reducible exact H2_) | with_reducible exact H | (rw [hy118]; exact H) | exact H
        have Ny118 := Aside0.mk hy118
        clear hy118
        have H' := Aside0.mk H
        clear H
        go_wp2_with (first | ((with_reducible refine gate_dst (N := 26) rfl ?_); refine Kd.R_lit (Kd.int .i64) _ 3 ?hg (N := 26) ?hd (xs := ([] : List Int)) (inner := []) (ok := fun _ => True) (okp := fun _ => True) ?hr ?hp (fun _ hk => hk) trivial (Below.refl _ _) (Nat.le_refl _) (by simp) ?_; (case hd => rfl); (case hg => rfl); (case hr => first | (go_simp; done) | (go_simp; rfl)); (case hp => exact (Reps.none _ _)); intro v119 w10 ho11 hb hg_ hnew_; clear hg_ hnew_; (first | rw [← Ny118.out] at ho11 | (simp only [Int.reduceToNat] at ho11; rw [← Ny118.out] at ho11)); have n0_ := Aside0.mk (Kd.R_lower ho11 (below_size (by repeat (first | (with_reducible first | exact HB.out | apply below_alloc | apply pw_below_drewN | apply below_drew1) | exact HB.out)))); have n1_ := Aside0.mk (below_step (by repeat (first | (with_reducible first | exact HB.out | apply below_alloc | apply pw_below_drewN | apply below_drew1) | exact HB.out)) hb); clear HB; have HO120 := n0_; have HB := n1_; clear n0_ n1_; clear hb ho11))
        go_loopg [2, 7, 28] kj3 (fun kq v2 v7 v28 w' => ∃ (x2_2 : Int) (x7_2 : List Int) (x28_2 : Int), v2 = .int .i64 x2_2 ∧ v28 = .int .i64 x28_2 ∧ Aside0 (impl_StateOf.l0 kq a1 x2_2 x7_2 a0 x28_2 = some r) ∧ Aside0 (kq ≤ kj3) ∧ Aside0 (Kd.R (Kd.int .i64) 3 w' w.heap.size (fun _ => True) v7 x7_2) ∧ Aside0 (Below w.heap.size w w'))
        case atStart => exact ⟨(a2), (y118), (0), (by first | rfl | (simp; done) | (simp [*]; done)), (by first | rfl | (simp; done) | (simp [*]; done)), H', ⟨Nat.le_refl _⟩, ⟨by (with_reducible repeat (first | apply Kd.R_alloc | apply Kd.R_drewN | apply Kd.R_drew)); exact HO120.out⟩, ⟨by repeat (first | (with_reducible first | exact HB.out | apply below_alloc | apply pw_below_drewN | apply below_drew1) | exact HB.out)⟩⟩
        case round =>
          clear H'
          try clear c1
          try clear p2
          try clear c5
          try clear c5b0
          try clear c6
          try clear c6b0
          try clear c7
          try clear c7b0
          try clear c8
          try clear c8b0
          try clear c9
          try clear p2
          obtain ⟨x2_2, x7_2, x28_2, rfl, rfl, HA, HK2, HO_7, HB⟩ := hrel
          cases gk with
          | zero => exact absurd HA.out (by simp [impl_StateOf.l0])
          | succ k2 =>
            have H := HA.out
            clear HA
            simp only [impl_StateOf.l0] at H
            by_cases c12 : x28_2 < a0
            · rw [if_pos c12] at H
              have c12b0 : decide (x28_2 < a0) = true := decide_eq_true c12
              clear c12
              by_cases c13 : a1 = 0
              · rw [if_pos c13] at H
                exact absurd H (by simp)
              · rw [if_neg c13] at H
                have c13b0 : (a1 == 0) = false := beq_eq_false_iff_ne.mpr c13
                have c13b1 : (a1 != 0) = true := bne_iff_ne.mpr c13
                by_cases c14 : x7_2.length < 17592186044416
                · rw [if_pos c14] at H
                  have LMc14 := Aside0.mk c14
                  clear c14
                  obtain ⟨y121, hy121⟩ : ∃ y_ : List Int, y_ = (x7_2 ++ [Int.tmod x2_2 a1]) := ⟨_, rfl⟩
                  replace H : (impl_StateOf.l0 k2 a1 (wrap64 (Int.tdiv x2_2 a1)) y121 a0 (wrap64 (x28_2 + 1))) = some r := by first | (rw [hy121]; with_reducible exact H) | (have H2_ := (Option.bind_some _ _).symm.trans H; rw [hy121]; with_reducible exact H2_) | (have H2_ := (Option.bind_some _ _).symm.trans H; with_reducible exact H2_) | with_reducible exact H | (rw [hy121]; exact H) | exact H
                  have Ny121 := Aside0.mk hy121
                  clear hy121
                  have H' := Aside0.mk H
                  clear H
                  go_wp2_with (first | ((with_reducible refine gate_builtin (b := .append) (xs := #[.tmp 30, .tmp 34]) rfl ?_); at_builtin; refine Kd.R_append (Kd.int .i64) (w0 := w) w.heap.size rfl (.tmp 30) (.tmp 34) 30 3 (.int .i64 0) 8 rfl Try.underlying30 info3 rfl (by decide) (by omega) u7 x7_2 (Int.tmod x2_2 a1) [.int .i64 (Int.tmod x2_2 a1)] (fun _ => True) (fun _ => False) rfl rfl ?aP (fun _ hk => hk.elim) ?aF ?aO ?aB ?aS ?aL ?_; (case aP => exact rfl); (case aB => exact (by repeat (first | (with_reducible first | exact HB.out | apply below_alloc | apply pw_below_drewN | apply below_drew1) | exact HB.out))); (case aF => exact (fun _ _ => trivial)); (case aO => exact (by (with_reducible repeat (first | apply Kd.R_alloc | apply Kd.R_drewN | apply Kd.R_drew)); exact HO_7.out)); (case aS => exact (below_size (by repeat (first | (with_reducible first | exact HB.out | apply below_alloc | apply pw_below_drewN | apply below_drew1) | exact HB.out)))); (case aL => have := LMc14.out; omega); intro v122 w15 ho hb hg hat; rw [← Ny121.out] at ho; have n0_ := Aside0.mk (hb); have n1_ := Aside0.mk (ho); clear HB; clear HO_7; have HB := n0_; have HO123 := n1_; clear n0_ n1_; clear ho hb hg hat))
                  go_roundg k2
                  case measure => have := HJ3.out; have := HK2.out; omega
                  case rel => exact ⟨(wrap64 (Int.tdiv x2_2 a1)), (y121), (wrap64 (x28_2 + 1)), (by first | rfl | (simp; done) | (simp [*]; done)), (by first | rfl | (simp; done) | (simp [*]; done)), H', ⟨by have := HJ3.out; have := HK2.out; omega⟩, ⟨by (with_reducible repeat (first | apply Kd.R_alloc | apply Kd.R_drewN | apply Kd.R_drew)); exact HO123.out⟩, ⟨by repeat (first | (with_reducible first | exact HB.out | apply below_alloc | apply pw_below_drewN | apply below_drew1) | exact HB.out)⟩⟩
                · rw [if_neg c14] at H
                  exact absurd H (by simp)
            · rw [if_neg c12] at H
              have c12b0 : decide (x28_2 < a0) = false := decide_eq_false c12
              clear c12
              by_cases c16 : x2_2 > 0
              · rw [if_pos c16] at H
                have c16b0 : decide (0 < x2_2) = true := decide_eq_true c16
                clear c16
                obtain rfl := Option.some.inj H
                go_wp2
                go_ret
                exact ⟨_, by first | rfl | (simp [errW_none, errW_some] <;> rfl) | (simp [*, errW_none, errW_some] <;> rfl), by first | exact Kd.R_nil _ _ _ _ _ | exact Kd.N_nil _ _ _ _ _ | exact Kd.V_nil _ _ _ _ _ | exact Kd.Q_nil _ _ _ _ _ | exact Kd.S_nil _ _ _ _ _, by repeat (first | (with_reducible first | exact HB.out | apply below_alloc | apply pw_below_drewN | apply below_drew1) | exact HB.out)⟩
              · rw [if_neg c16] at H
                have c16b0 : decide (0 < x2_2) = false := decide_eq_false c16
                clear c16
                obtain rfl := Option.some.inj H
                go_wp2
                go_ret
                exact ⟨_, by first | rfl | (simp [errW_none, errW_some] <;> rfl) | (simp [*, errW_none, errW_some] <;> rfl), by (with_reducible repeat (first | apply Kd.R_alloc | apply Kd.R_drewN | apply Kd.R_drew)); exact HO_7.out, by repeat (first | (with_reducible first | exact HB.out | apply below_alloc | apply pw_below_drewN | apply below_drew1) | exact HB.out)⟩

/-! ### impl_RingStates: function 14 -/
set_option maxHeartbeats 8000000 in
set_option maxRecDepth 100000 in
theorem impl_RingStates.state_calls (k : Nat) (a0 a2 : Int) (r : List Int) (w : World) (h1 : 1 ≤ a0) (h6 : a0 ≤ 6) (h0 : 0 ≤ a2) (h : impl_StateOf.f k a0 3 a2 = some r) :
    Calls Try.prog 18 #[.int .i64 a0, .int .i64 3, .int .i64 a2] w fun e w' => ∃ v0_ : Value, e = .returned (v0_) ∧ Kd.R (Kd.int .i64) 3 w' w.heap.size (fun _ => True) v0_ r ∧ Below w.heap.size w w' ∧ Aside0 (r = [] → v0_ = .slice none 0 0) := by
  have HB := Aside0.mk (Below.refl w.heap.size w)
  have H : impl_StateOf.j0 k a0 3 a2 false = some r := by
    unfold impl_StateOf.f at h
    rw [if_neg (by omega), if_neg (by omega), if_neg (by omega), if_neg (by omega), decide_eq_false (by omega)] at h
    exact h
  clear h
  have HA0 := Aside0.mk h1
  have d1 : decide (a0 < 1) = false := decide_eq_false (by omega)
  have d2 : decide (6 < a0) = false := decide_eq_false (by omega)
  have d3 : decide (a2 < 0) = false := decide_eq_false (by omega)
  clear h1 h6 h0
  cases k with
  | zero => exact absurd H (by simp [impl_StateOf.j0])
  | succ kj3 =>
    simp only [impl_StateOf.j0] at H
    rw [if_neg (by simp)] at H
    have H' := Aside0.mk H
    clear H
    go_enter Try.func18, Try.ntmps18
    go_wp2_with (first | ((with_reducible refine gate_dst (N := 26) rfl ?_); refine Kd.R_lit (Kd.int .i64) (w0 := w) w.heap.size 3 ?hg (N := 26) ?hd (xs := ([] : List Int)) (inner := []) (ok := fun _ => True) (okp := fun _ => True) ?hr ?hp (fun _ hk => hk) trivial (Below.refl _ _) (Nat.le_refl _) (by simp) ?_; (case hd => rfl); (case hg => rfl); (case hr => first | (go_simp; done) | (go_simp; rfl)); (case hp => exact (Reps.none _ _)); intro v108 w10 ho11 hb hg_ hnew_; clear hg_ hnew_; have HO := Aside0.mk ho11; have HB2 := Aside0.mk hb; clear ho11 hb HB; have HB := HB2; clear HB2))
    go_loopg [2, 7, 28] kj3 (fun kq v2 v7 v28 w' => ∃ (x2_2 : Int) (x7_2 : List Int) (x28_2 : Int), v2 = .int .i64 x2_2 ∧ v28 = .int .i64 x28_2 ∧ Aside0 (impl_StateOf.l0 kq 3 x2_2 x7_2 a0 x28_2 = some r) ∧ Aside0 (kq ≤ kj3) ∧ Aside0 (x28_2 = (x7_2.length : Int)) ∧ Aside0 (Kd.R (Kd.int .i64) 3 w' w.heap.size (fun _ => True) v7 x7_2) ∧ Aside0 (Below w.heap.size w w'))
    case atStart => exact ⟨a2, [], 0, rfl, rfl, H', ⟨Nat.le_refl _⟩, ⟨rfl⟩, HO, HB⟩
    case round =>
      clear H'
      obtain ⟨x2_2, x7_2, x28_2, rfl, rfl, HA, HK2, HX, HO_7, HB⟩ := hrel
      cases gk with
      | zero => exact absurd HA.out (by simp [impl_StateOf.l0])
      | succ k2 =>
        have H := HA.out
        clear HA
        simp only [impl_StateOf.l0] at H
        by_cases c12 : x28_2 < a0
        · rw [if_pos c12] at H
          have c12b0 : decide (x28_2 < a0) = true := decide_eq_true c12
          clear c12
          rw [if_neg (by decide)] at H
          by_cases c14 : x7_2.length < 17592186044416
          · rw [if_pos c14] at H
            have LMc14 := Aside0.mk c14
            have HX2 : Aside0 (wrap64 (x28_2 + 1) = ((x7_2 ++ [Int.tmod x2_2 3]).length : Int)) := ⟨by rw [HX.out, List.length_append]; unfold wrap64; simp; omega⟩
            clear c14
            have H' := Aside0.mk H
            clear H
            go_wp2_with (first | ((with_reducible refine gate_builtin (b := .append) (xs := #[.tmp 30, .tmp 34]) rfl ?_); at_builtin; refine Kd.R_append (Kd.int .i64) (w0 := w) w.heap.size rfl (.tmp 30) (.tmp 34) 30 3 (.int .i64 0) 8 rfl Try.underlying30 info3 rfl (by decide) (by omega) u7 x7_2 (Int.tmod x2_2 3) [.int .i64 (Int.tmod x2_2 3)] (fun _ => True) (fun _ => False) rfl rfl ?aP (fun _ hk => hk.elim) ?aF ?aO ?aB ?aS ?aL ?_; (case aP => exact rfl); (case aB => exact (by repeat (first | (with_reducible first | exact HB.out | apply below_alloc | apply pw_below_drewN | apply below_drew1) | exact HB.out))); (case aF => exact (fun _ _ => trivial)); (case aO => exact (by (with_reducible repeat (first | apply Kd.R_alloc | apply Kd.R_drewN | apply Kd.R_drew)); exact HO_7.out)); (case aS => exact (below_size (by repeat (first | (with_reducible first | exact HB.out | apply below_alloc | apply pw_below_drewN | apply below_drew1) | exact HB.out)))); (case aL => have := LMc14.out; omega); intro v111 w15 ho hb hg hat; have n0_ := Aside0.mk (hb); have n1_ := Aside0.mk (ho); clear HB; clear HO_7; have HB := n0_; have HO112 := n1_; clear n0_ n1_; clear ho hb hg hat))
            go_roundg k2
            case measure => have := HK2.out; omega
            case rel => exact ⟨wrap64 (Int.tdiv x2_2 3), x7_2 ++ [Int.tmod x2_2 3], wrap64 (x28_2 + 1), by first | rfl | (simp; done), by first | rfl | (simp; done), H', ⟨by have := HK2.out; omega⟩, HX2, ⟨by (with_reducible repeat (first | apply Kd.R_alloc | apply Kd.R_drewN | apply Kd.R_drew)); exact HO112.out⟩, HB⟩
          · rw [if_neg c14] at H
            exact absurd H (by simp)
        · rw [if_neg c12] at H
          have c12b0 : decide (x28_2 < a0) = false := decide_eq_false c12
          have HLEN : Aside0 (0 < x7_2.length) := ⟨by have := HX.out; have := HA0.out; omega⟩
          clear c12
          by_cases c16 : x2_2 > 0
          · rw [if_pos c16] at H
            have c16b0 : decide (0 < x2_2) = true := decide_eq_true c16
            clear c16
            obtain rfl := Option.some.inj H
            go_wp2
            go_ret
            exact ⟨.slice none 0 0, rfl, Kd.R_nil _ _ _ _ _, HB.out, by first | exact ⟨fun _ => rfl⟩ | exact ⟨rfl⟩⟩
          · rw [if_neg c16] at H
            have c16b0 : decide (0 < x2_2) = false := decide_eq_false c16
            clear c16
            obtain rfl := Option.some.inj H
            go_wp2
            go_ret
            exact ⟨_, rfl, HO_7.out, HB.out, ⟨fun e_ => absurd (congrArg List.length e_) (by have := HLEN.out; simp; intro e2; rw [e2] at this; simp at this)⟩⟩

def impl_RingStates.l0 : Nat → Int → Int → Int → Int → Option Int
  | 0, _, _, _, _ => none
  | k + 1, x0, x1, x6, xn => if 0 ≤ x6 ∧ x6 < 1000000 ∧ 0 ≤ xn ∧ xn < 1000000 then (impl_StateOf.f k x0 3 x6).bind fun st => (if st.length = 0 then some xn else (impl_RingWinding.f k st).bind fun t => impl_RingStates.l0 k x0 x1 (x6 + 1) (if t.1 = x1 then xn + 1 else xn)) else none
def impl_RingStates.f (k : Nat) (a0 : Int) (a1 : Int) : Option Int := if a0 < 3 then some (-1) else (if a0 > 6 then some (-1) else (if a1 < -6 then some (-1) else (if a1 > 6 then some (-1) else impl_RingStates.l0 k a0 a1 0 0)))
theorem impl_RingStates.mono_l : ∀ k, (∀ y0 y1 y2 y3, LeO (impl_RingStates.l0 k y0 y1 y2 y3) (impl_RingStates.l0 (k + 1) y0 y1 y2 y3))
  | 0 => fun _ _ _ _ r h => by simp [impl_RingStates.l0] at h
  | k + 1 => by
    have ih0 := impl_RingStates.mono_l k
    intro y0 y1 y2 y3
    unfold impl_RingStates.l0
    exact LeO.ite (LeO.bind (impl_StateOf.mono _ _ _ _) (fun _ => LeO.ite (LeO.refl _) (LeO.bind (impl_RingWinding.mono _ _) (fun _ => ih0 _ _ _ _)))) (LeO.none _)
theorem impl_RingStates.mono : ∀ a0 a1 k, LeO (impl_RingStates.f k a0 a1) (impl_RingStates.f (k + 1) a0 a1) := by
  intro a0 a1 k
  have ih0 := impl_RingStates.mono_l k
  unfold impl_RingStates.f
  exact LeO.ite (LeO.refl _) (LeO.ite (LeO.refl _) (LeO.ite (LeO.refl _) (LeO.ite (LeO.refl _) (ih0 _ _ _ _))))
set_option maxHeartbeats 8000000 in
set_option maxRecDepth 100000 in
theorem impl_RingStates.tell_calls (k : Nat) (B1 B2 : Nat) (A : Option Addr) (c : Nat) (st : List Int) (a1 xn : Int) (t1 : Int) (t2 : Bool) (w : World) (hB1 : w.cell? ⟨B1, 0, none⟩ = some (.int .i64 a1)) (hlt1 : B1 < B2) (hB2 : w.heap[B2]? = some (.cells #[.int .i64 xn] 3 (0, 0))) (hx0 : 0 ≤ xn) (hx1 : xn < 1000000) (hs : Kd.C (Kd.int .i64) w A st.length st) (hc : st.length ≤ c) (h : impl_RingWinding.f k st = some (t1, t2)) :
    Calls Try.prog 53 #[.slice A st.length c, .pointer (some ⟨B1, 0, none⟩), .pointer (some ⟨B2, 0, none⟩)] w fun e w' => e = .returned (.tuple #[]) ∧ w'.heap[B2]? = some (.cells #[.int .i64 (if t1 = a1 then xn + 1 else xn)] 3 (0, 0)) ∧ Below B2 w w' := by
  have hlt := lt_of_block hB2
  have HS := Aside0.mk hs
  have HC := Aside0.mk hc
  have H := Aside0.mk h
  have HB1 := Aside0.mk hB1
  have HB2 := Aside0.mk hB2
  have HLT := Aside0.mk hlt
  have HLT1 := Aside0.mk hlt1
  clear hs hc h hB1 hB2 hlt hlt1
  by_cases ht : t1 = a1
  · have htb : (t1 == a1) = true := beq_iff_eq.mpr ht
    rw [if_pos ht]
    clear ht
    go_enter Try.func53, Try.ntmps53
    go_wp2_with (first | (go_at_call 17; (with_reducible refine (impl_RingWinding.calls k A c st t1 t2 _ HS.out HC.out H.out).mono ?_); rintro e w2 ⟨rfl, hb⟩; have hb2 : w2.heap[B2]? = some (.cells #[.int .i64 xn] 3 (0, 0)) := (hb.block B2 HLT.out).trans HB2.out; have cB1 : w2.cell? ⟨B1, 0, none⟩ = some (.int .i64 a1) := (hb.cell (p := ⟨B1, 0, none⟩) (Nat.lt_trans HLT1.out HLT.out)).trans HB1.out; have cB2 := cell_of_one hb2; have fB2 := free_of_one hb2; have HH := Aside0.mk hb2; have HBB := Aside0.mk hb; clear hb hb2))
    go_end0
    exact ⟨rfl, one_setCell HH.out, ((Below.refl B2 w).trans (HBB.out.mono (Nat.le_of_lt HLT.out))).setCell (Nat.le_refl _) _⟩
  · have htb : (t1 == a1) = false := beq_eq_false_iff_ne.mpr ht
    rw [if_neg ht]
    clear ht
    go_enter Try.func53, Try.ntmps53
    go_wp2_with (first | (go_at_call 17; (with_reducible refine (impl_RingWinding.calls k A c st t1 t2 _ HS.out HC.out H.out).mono ?_); rintro e w2 ⟨rfl, hb⟩; have hb2 : w2.heap[B2]? = some (.cells #[.int .i64 xn] 3 (0, 0)) := (hb.block B2 HLT.out).trans HB2.out; have cB1 : w2.cell? ⟨B1, 0, none⟩ = some (.int .i64 a1) := (hb.cell (p := ⟨B1, 0, none⟩) (Nat.lt_trans HLT1.out HLT.out)).trans HB1.out; have HH := Aside0.mk hb2; have HBB := Aside0.mk hb; clear hb hb2))
    go_end0
    exact ⟨rfl, HH.out, (Below.refl B2 w).trans (HBB.out.mono (Nat.le_of_lt HLT.out))⟩
set_option maxHeartbeats 8000000 in
set_option maxRecDepth 100000 in
theorem impl_RingStates.all_calls (k : Nat) (B1 B2 : Nat) (a0 a1 : Int) (r : Int) (w : World) (h3 : 3 ≤ a0) (h6 : a0 ≤ 6) (hB1 : w.cell? ⟨B1, 0, none⟩ = some (.int .i64 a1)) (hlt1 : B1 < B2) (hB2 : w.heap[B2]? = some (.cells #[.int .i64 0] 3 (0, 0))) (h : impl_RingStates.l0 k a0 a1 0 0 = some r) :
    Calls Try.prog 52 #[.int .i64 a0, .int .i64 3, .func (.func 53) #[] #[.pointer (some ⟨B1, 0, none⟩), .pointer (some ⟨B2, 0, none⟩)]] w fun e w' => e = .returned (.tuple #[]) ∧ w'.heap[B2]? = some (.cells #[.int .i64 r] 3 (0, 0)) ∧ Below B2 w w' := by
  have HLT := Aside0.mk (lt_of_block hB2)
  have HB1 := Aside0.mk hB1
  have HB2 := Aside0.mk hB2
  have HLT1 := Aside0.mk hlt1
  have H3 := Aside0.mk h3
  have H6 := Aside0.mk h6
  have H' := Aside0.mk h
  clear hB1 hlt1 hB2 h3 h6 h
  go_enter Try.func52, Try.ntmps52
  go_wp2
  go_loopg [6] k (fun kq v6 w' => ∃ (x6 xn : Int), v6 = .int .i64 x6 ∧ Aside0 (impl_RingStates.l0 kq a0 a1 x6 xn = some r) ∧ Aside0 (kq ≤ k) ∧ Aside0 (w'.heap[B2]? = some (.cells #[.int .i64 xn] 3 (0, 0))) ∧ Aside0 (Below B2 w w'))
  case atStart => exact ⟨0, 0, rfl, H', ⟨Nat.le_refl _⟩, HB2, ⟨Below.refl _ _⟩⟩
  case round =>
    clear H'
    obtain ⟨x6, xn, rfl, HA, HK, HN, HB⟩ := hrel
    cases gk with
    | zero => exact absurd HA.out (by simp [impl_RingStates.l0])
    | succ k2 =>
      have H := HA.out
      clear HA
      simp only [impl_RingStates.l0] at H
      by_cases hg : 0 ≤ x6 ∧ x6 < 1000000 ∧ 0 ≤ xn ∧ xn < 1000000
      · rw [if_pos hg] at H
        obtain ⟨g1, g2, g3, g4⟩ := hg
        replace H := Option.bind_eq_some_iff.mp H
        obtain ⟨st, hS, H⟩ := H
        have HS := Aside0.mk hS
        clear hS
        by_cases hz : st.length = 0
        · rw [if_pos hz] at H
          have HE : Aside0 (st = []) := ⟨List.length_eq_zero_iff.1 hz⟩
          clear hz
          obtain rfl := Option.some.inj H
          have hnq_nil := eql_isnil Try.underlying30
          go_wp2_with (first | (go_at_call 18; (with_reducible refine (impl_RingStates.state_calls k2 a0 x6 st _ (by have := H3.out; omega) H6.out g1 HS.out).mono ?_); rintro e w4 ⟨v0, rfl, ho0, hb, hn0⟩; obtain rfl := hn0.out HE.out; have HBB := Aside0.mk hb; clear ho0 hb hn0))
          first | go_end0 | refine bodyPost_ret (results_none rfl _ _ _) rfl ?_
          exact ⟨rfl, (HBB.out.block B2 (lt_of_block HN.out)).trans HN.out, HB.out.trans (HBB.out.mono (Nat.le_of_lt (lt_of_block HN.out)))⟩
        · rw [if_neg hz] at H
          have HP : Aside0 (0 < st.length) := ⟨by omega⟩
          clear hz
          replace H := Option.bind_eq_some_iff.mp H
          obtain ⟨⟨t1, t2⟩, hW, H⟩ := H
          have HW := Aside0.mk hW
          clear hW
          have H' := Aside0.mk H
          clear H
          have hnq_any := fun ad_ : Addr => eql_notnil (A := some ad_) Try.underlying30 rfl
          go_wp2_with (first | (go_at_call 18; (with_reducible refine (impl_RingStates.state_calls k2 a0 x6 st _ (by have := H3.out; omega) H6.out g1 HS.out).mono ?_); rintro e w4 ⟨v0, rfl, ho0, hb, hn0⟩; clear hn0; obtain ⟨g5, co5, rfl, _, _, _⟩ := Kd.R_form ho0 HP.out; have HO := Aside0.mk ho0; have HBB := Aside0.mk hb; clear ho0 hb; have HN2 := Aside0.mk ((HBB.out.block B2 (lt_of_block HN.out)).trans HN.out); have HB2' := Aside0.mk (HB.out.trans (HBB.out.mono (Nat.le_of_lt (lt_of_block HN.out)))); have HC1 := Aside0.mk ((HB2'.out.cell (p := ⟨B1, 0, none⟩) HLT1.out).trans HB1.out)) | (go_at_call 53; (with_reducible refine (impl_RingStates.tell_calls k2 B1 B2 (some ⟨g5, 0, none⟩) co5 st a1 xn t1 t2 _ HC1.out HLT1.out HN2.out g3 g4 (Kd.R_reads' HO.out).2.2 (Kd.R_reads' HO.out).2.1 HW.out).mono ?_); rintro e w5 ⟨rfl, hn5, hb5⟩; have HN5 := Aside0.mk hn5; have HB5 := Aside0.mk (HB2'.out.trans hb5); clear hn5 hb5))
          go_roundg k2
          case measure => omega
          case rel => exact ⟨x6 + 1, _, by first | rfl | (simp; done), H', ⟨by have := HK.out; omega⟩, HN5, HB5⟩
      · rw [if_neg hg] at H
        exact absurd H (by simp)

set_option maxHeartbeats 8000000 in
set_option maxRecDepth 100000 in
theorem impl_RingStates.calls (k : Nat) (a0 : Int) (a1 : Int) (r : Int) (w : World) (h : impl_RingStates.f k a0 a1 = some r) :
    Calls Try.prog 14 #[.int .i64 a0, .int .i64 a1] w fun e w' => e = .returned (.int .i64 r) ∧ Below w.heap.size w w' := by
  have hmf : ∀ (fn : Fn) (first cap : Array Value) (w : World), (Instr.makeFunc fn first cap).run Try.prog w = .ok (.func fn first cap) w := fun _ _ _ _ => rfl
  have hc1 : (w.alloc (.cells #[.int .i64 a1] 3)).cell? ⟨w.heap.size, 0, none⟩ = some (.int .i64 a1) := by
    rw [World.cell?_alloc_at _ _ _ _ rfl]; rfl
  have HB := Aside0.mk ((Below.refl w.heap.size w).alloc (Nat.le_refl _) (.cells #[.int .i64 a1] 3))
  unfold impl_RingStates.f at h
  by_cases c1 : a0 < 3
  · rw [if_pos c1] at h
    obtain rfl := Option.some.inj h
    clear h
    have b1 : decide (a0 < 3) = true := decide_eq_true c1
    clear c1
    go_enter Try.func14, Try.ntmps14
    go_wp2
    go_ret
    exact ⟨rfl, HB.out⟩
  · rw [if_neg c1] at h
    have b1 : decide (a0 < 3) = false := decide_eq_false c1
    by_cases c2 : a0 > 6
    · rw [if_pos c2] at h
      obtain rfl := Option.some.inj h
      clear h
      have b2 : decide (6 < a0) = true := decide_eq_true c2
      clear c1 c2
      go_enter Try.func14, Try.ntmps14
      go_wp2
      go_ret
      exact ⟨rfl, HB.out⟩
    · rw [if_neg c2] at h
      have b2 : decide (6 < a0) = false := decide_eq_false c2
      by_cases c3 : a1 < -6
      · rw [if_pos c3] at h
        obtain rfl := Option.some.inj h
        clear h
        have b3 : decide (a1 < -6) = true := decide_eq_true c3
        clear c1 c2 c3
        go_enter Try.func14, Try.ntmps14
        go_wp2
        go_ret
        exact ⟨rfl, HB.out⟩
      · rw [if_neg c3] at h
        have b3 : decide (a1 < -6) = false := decide_eq_false c3
        by_cases c4 : a1 > 6
        · rw [if_pos c4] at h
          obtain rfl := Option.some.inj h
          clear h
          have b4 : decide (6 < a1) = true := decide_eq_true c4
          clear c1 c2 c3 c4
          go_enter Try.func14, Try.ntmps14
          go_wp2
          go_ret
          exact ⟨rfl, HB.out⟩
        · rw [if_neg c4] at h
          have b4 : decide (6 < a1) = false := decide_eq_false c4
          have H3 : Aside0 (3 ≤ a0) := ⟨by omega⟩
          have H6 : Aside0 (a0 ≤ 6) := ⟨by omega⟩
          have H' := Aside0.mk h
          clear h c1 c2 c3 c4
          go_enter Try.func14, Try.ntmps14
          have HC1 : Aside0 (((w.alloc (.cells #[.int .i64 a1] 3)).alloc (.cells #[.int .i64 0] 3)).cell? ⟨w.heap.size, 0, none⟩ = some (.int .i64 a1)) := ⟨by rw [World.cell?_alloc_past _ _ _ (by simp)]; exact hc1⟩
          have HN : Aside0 (((w.alloc (.cells #[.int .i64 a1] 3)).alloc (.cells #[.int .i64 0] 3)).heap[w.heap.size + 1]? = some (.cells #[.int .i64 0] 3 (0, 0))) := ⟨by have := heap_alloc_new (w.alloc (.cells #[.int .i64 a1] 3)) (.cells #[.int .i64 0] 3); simpa using this⟩
          have HB2 := Aside0.mk (HB.out.alloc (by simp) (.cells #[.int .i64 0] 3))
          go_wp2_with (first | (go_at_call 52; (with_reducible refine (impl_RingStates.all_calls k w.heap.size (w.heap.size + 1) a0 a1 r _ H3.out H6.out HC1.out (Nat.lt_succ_self _) HN.out H'.out).mono ?_); rintro e w5 ⟨rfl, hn5, hb5⟩; have cN := cell_of_one hn5; have HB5 := Aside0.mk (HB2.out.trans (hb5.mono (Nat.le_succ _))); clear hn5 hb5))
          go_ret
          exact ⟨rfl, HB5.out⟩

/-! ### laws_FnExactRingStates: function 3 -/
def laws_FnExactRingStates.f (k : Nat) (a0 : Int) (a1 : Int) : Option (Bool) := (spec_RingStates.f k a0 a1).bind fun t124 => ((impl_RingStates.f k a0 a1).bind fun t125 => (if t125 = t124 then (some true) else (some false)))
theorem laws_FnExactRingStates.mono : ∀ a0 a1 k, LeO (laws_FnExactRingStates.f k a0 a1) (laws_FnExactRingStates.f (k + 1) a0 a1) := by
  intro a0 a1 k
  unfold laws_FnExactRingStates.f
  repeat' first
      | (with_reducible exact impl_RingStates.mono _ _ _)
      | (with_reducible exact spec_RingStates.mono _ _ _)
      | (with_reducible exact LeO.refl _)
      | (with_reducible exact LeO.none _)
      | (with_reducible refine LeO.ite ?_ ?_)
      | (with_reducible refine LeO.bind ?_ (fun _ => ?_))
      | exact impl_RingStates.mono _ _ _
      | exact spec_RingStates.mono _ _ _
      | exact LeO.none _
      | refine LeO.ite ?_ ?_
      | refine LeO.bind ?_ (fun _ => ?_)
set_option maxHeartbeats 8000000 in
set_option maxRecDepth 100000 in
theorem laws_FnExactRingStates.calls (k : Nat) (a0 : Int) (a1 : Int) (r : Bool) (w : World) (h : laws_FnExactRingStates.f k a0 a1 = some r) :
    Calls Try.prog 3 #[.int .i64 a0, .int .i64 a1] w fun e w' => e = .returned (.bool r) ∧ Below w.heap.size w w' := by
  have HB := Aside0.mk (Below.refl w.heap.size w)
  have H : ((spec_RingStates.f k a0 a1).bind fun t124 => ((impl_RingStates.f k a0 a1).bind fun t125 => (if t125 = t124 then (some true) else (some false)))) = some r := h
  clear h
  replace H := Option.bind_eq_some_iff.mp H
  obtain ⟨t124, A30, H⟩ := H
  replace H : ((impl_RingStates.f k a0 a1).bind fun t125 => (if t125 = t124 then (some true) else (some false))) = some r := H
  have A3 := Aside0.mk A30
  clear A30
  replace H := Option.bind_eq_some_iff.mp H
  obtain ⟨t125, A40, H⟩ := H
  replace H : (if t125 = t124 then (some true) else (some false)) = some r := H
  have A4 := Aside0.mk A40
  clear A40
  by_cases c5 : t125 = t124
  · rw [if_pos c5] at H
    have c5b0 : (t125 == t124) = true := beq_iff_eq.mpr c5
    have c5b1 : (t125 != t124) = false := bne_eq_false_iff_eq.mpr c5
    clear c5
    obtain rfl := Option.some.inj H
    go_enter Try.func3, Try.ntmps3
    go_wp2_with (first | ((with_reducible refine gate_callee (f := 13) rfl ?_); refine goesL_ (some 9) rfl rfl Try.func13 (by kernel_rfl) rfl #[.int .i64 a0, .int .i64 a1] rfl (by (try simp only [List.map_toArray, List.map_cons, List.map_nil]); first | done | rfl | (simp only [List.length_drop, List.length_take]; rfl)) ?_; (with_reducible refine (spec_RingStates.calls k a0 a1 t124 _ A3.out).mono ?_); rintro e w' ⟨rfl, ⟨nd, rfl⟩⟩; refine ⟨_, rfl, ?_⟩) | ((with_reducible refine gate_callee (f := 14) rfl ?_); refine goesL_ (some 12) rfl rfl Try.func14 (by kernel_rfl) rfl #[.int .i64 a0, .int .i64 a1] rfl (by (try simp only [List.map_toArray, List.map_cons, List.map_nil]); first | done | rfl | (simp only [List.length_drop, List.length_take]; rfl)) ?_; (with_reducible refine (impl_RingStates.calls k a0 a1 t125 _ A4.out).mono ?_); rintro e w6 ⟨rfl, hb⟩; refine ⟨_, rfl, ?_⟩; have n0_ := Aside0.mk (below_step (by repeat (first | (with_reducible first | exact HB.out | apply below_alloc | apply pw_below_drewN | apply below_drew1) | exact HB.out)) hb); clear HB; have HB := n0_; clear n0_; (try clear hb); (try clear hb2); (try clear hk); (try clear hi)))
    go_ret
    exact ⟨by first | rfl | (simp [errW_none, errW_some] <;> rfl) | (simp [*, errW_none, errW_some] <;> rfl), by repeat (first | (with_reducible first | exact HB.out | apply below_alloc | apply pw_below_drewN | apply below_drew1) | exact HB.out)⟩
  · rw [if_neg c5] at H
    have c5b0 : (t125 == t124) = false := beq_eq_false_iff_ne.mpr c5
    have c5b1 : (t125 != t124) = true := bne_iff_ne.mpr c5
    obtain rfl := Option.some.inj H
    go_enter Try.func3, Try.ntmps3
    go_wp2_with (first | ((with_reducible refine gate_callee (f := 13) rfl ?_); refine goesL_ (some 9) rfl rfl Try.func13 (by kernel_rfl) rfl #[.int .i64 a0, .int .i64 a1] rfl (by (try simp only [List.map_toArray, List.map_cons, List.map_nil]); first | done | rfl | (simp only [List.length_drop, List.length_take]; rfl)) ?_; (with_reducible refine (spec_RingStates.calls k a0 a1 t124 _ A3.out).mono ?_); rintro e w' ⟨rfl, ⟨nd, rfl⟩⟩; refine ⟨_, rfl, ?_⟩) | ((with_reducible refine gate_callee (f := 14) rfl ?_); refine goesL_ (some 12) rfl rfl Try.func14 (by kernel_rfl) rfl #[.int .i64 a0, .int .i64 a1] rfl (by (try simp only [List.map_toArray, List.map_cons, List.map_nil]); first | done | rfl | (simp only [List.length_drop, List.length_take]; rfl)) ?_; (with_reducible refine (impl_RingStates.calls k a0 a1 t125 _ A4.out).mono ?_); rintro e w7 ⟨rfl, hb⟩; refine ⟨_, rfl, ?_⟩; have n0_ := Aside0.mk (below_step (by repeat (first | (with_reducible first | exact HB.out | apply below_alloc | apply pw_below_drewN | apply below_drew1) | exact HB.out)) hb); clear HB; have HB := n0_; clear n0_; (try clear hb); (try clear hb2); (try clear hk); (try clear hi)))
    go_ret
    exact ⟨by first | rfl | (simp [errW_none, errW_some] <;> rfl) | (simp [*, errW_none, errW_some] <;> rfl), by repeat (first | (with_reducible first | exact HB.out | apply below_alloc | apply pw_below_drewN | apply below_drew1) | exact HB.out)⟩

/-- THE ONE PURE STATEMENT of laws_FnExactRingStates: yours. -/
def laws_FnExactRingStates.Pure : Prop := ∀ (a0 : Int) (a1 : Int), (Lit.int .i64 a0).wf = true → (Lit.int .i64 a1).wf = true → ∃ k, laws_FnExactRingStates.f k a0 a1 = some true
theorem laws_FnExactRingStates.walk (P : laws_FnExactRingStates.Pure) (a0 : Int) (a1 : Int) (w : World) (w0 : (Lit.int .i64 a0).wf = true) (w1 : (Lit.int .i64 a1).wf = true) :
    Calls Try.prog 3 #[.int .i64 a0, .int .i64 a1] w fun e w' => e = .returned (.bool true) ∧ Below w.heap.size w w' := by
  obtain ⟨k, h⟩ := P a0 a1 w0 w1
  refine (laws_FnExactRingStates.calls k a0 a1 true w h).mono ?_
  rintro e w' ⟨rfl, hd⟩
  exact ⟨rfl, hd⟩

end Go.Proofs.Ytbbafjmfdbjkaaa.PFnExactRingStates
