/- States of a ring told by numbers: their windings, how many states have a winding, and how many rows of fronts have a sum. -/
import Derived.Test.YtkofidpgbmajdaaClean
set_option linter.unusedSimpArgs false
set_option linter.unusedVariables false
namespace Go.Proofs.Ytkofidpgbmajdaa.C

/-- The kind of node i in the state of a number. -/
def dig3 (num i : Nat) : Int := ((num / 3 ^ i % 3 : Nat) : Int)
def stW (n num : Nat) : List Int := mk n (dig3 num)
/-- What the winding of that state is. -/
def wnd (n num : Nat) : Int := Int.tdiv (sumN (fun i => rise (dig3 num i) (dig3 num ((i + 1) % n))) n) 3
def cntW (n : Nat) (w : Int) : Int := countN (wnd n) w (3 ^ n)
def fways : Nat → Int → Int
  | 0, s => if s = 0 then 1 else 0
  | m + 1, s => fways m (s - 1) + fways m s + fways m (s + 1)
theorem ways_bd : ∀ m s, 0 ≤ fways m s ∧ fways m s ≤ 3 ^ m
  | 0, s => by unfold fways; split <;> decide
  | m + 1, s => by
    have h1 := ways_bd m (s - 1)
    have h2 := ways_bd m s
    have h3 := ways_bd m (s + 1)
    simp only [fways]
    rw [Int.pow_succ]
    omega
theorem pow3_int {n : Nat} (h6 : n ≤ 6) : (3 : Int) ^ n ≤ 729 := by
  have h1 : (3 : Nat) ^ n ≤ 3 ^ 6 := Nat.pow_le_pow_right (by decide) h6
  have h2 : (3 : Nat) ^ 6 = 729 := by decide
  have e : ((3 : Int) ^ n) = ((3 ^ n : Nat) : Int) := by simp
  rw [e]
  generalize 3 ^ n = X at h1
  omega
theorem pow3_le {n : Nat} (h6 : n ≤ 6) : 3 ^ n ≤ 729 := by
  have : 3 ^ n ≤ 3 ^ 6 := Nat.pow_le_pow_right (by decide) h6
  exact this
def ringStates (a b : Int) : Int := if 3 ≤ a ∧ a ≤ 6 ∧ -6 ≤ b ∧ b ≤ 6 then cntW a.toNat b else -1
def allWs : List Int := [-6, -5, -4, -3, -2, -1, 0, 1, 2, 3, 4, 5, 6]
theorem mem_allWs {w : Int} (h : -6 ≤ w) (h2 : w ≤ 6) : w ∈ allWs := by
  have : w = -6 ∨ w = -5 ∨ w = -4 ∨ w = -3 ∨ w = -2 ∨ w = -1 ∨ w = 0 ∨ w = 1 ∨ w = 2 ∨ w = 3 ∨ w = 4 ∨ w = 5 ∨ w = 6 := by omega
  unfold allWs
  rcases this with e | e | e | e | e | e | e | e | e | e | e | e | e <;> subst e <;> decide
theorem cnt3 : ∀ w ∈ allWs, cntW 3 w = 3 * fways 3 (3 * w) := by decide +kernel
theorem cnt4 : ∀ w ∈ allWs, cntW 4 w = 3 * fways 4 (3 * w) := by decide +kernel
theorem cnt5 : ∀ w ∈ allWs, cntW 5 w = 3 * fways 5 (3 * w) := by decide +kernel
theorem cnt6 : ∀ w ∈ allWs, cntW 6 w = 3 * fways 6 (3 * w) := by decide +kernel
theorem cnt_ways {n : Nat} {w : Int} (h3 : 3 ≤ n) (h6 : n ≤ 6) (h : -6 ≤ w) (h2 : w ≤ 6) : cntW n w = 3 * fways n (3 * w) := by
  have hm := mem_allWs h h2
  have : n = 3 ∨ n = 4 ∨ n = 5 ∨ n = 6 := by omega
  rcases this with e | e | e | e <;> subst e
  · exact cnt3 w hm
  · exact cnt4 w hm
  · exact cnt5 w hm
  · exact cnt6 w hm
theorem ways_sym : ∀ n ∈ [3, 4, 5, 6], ∀ w ∈ allWs, fways n (3 * -w) = fways n (3 * w) := by decide +kernel
theorem ways_sum : ∀ n ∈ [3, 4, 5, 6], sumN (fun i => 3 * fways n (3 * ((i : Int) - 6))) 13 = ((3 ^ n : Nat) : Int) := by decide +kernel
theorem cnt_sym {n : Nat} {w : Int} (h3 : 3 ≤ n) (h6 : n ≤ 6) (h : -6 ≤ w) (h2 : w ≤ 6) : cntW n (-w) = cntW n w := by
  rw [cnt_ways h3 h6 (by omega) (by omega), cnt_ways h3 h6 h h2]
  have hn : n ∈ [3, 4, 5, 6] := by
    have : n = 3 ∨ n = 4 ∨ n = 5 ∨ n = 6 := by omega
    rcases this with e | e | e | e <;> subst e <;> decide
  rw [ways_sym n hn w (mem_allWs h h2)]
theorem cnt_sum {n : Nat} (h3 : 3 ≤ n) (h6 : n ≤ 6) : sumN (fun i => cntW n ((i : Int) - 6)) 13 = ((3 ^ n : Nat) : Int) := by
  have hn : n ∈ [3, 4, 5, 6] := by
    have : n = 3 ∨ n = 4 ∨ n = 5 ∨ n = 6 := by omega
    rcases this with e | e | e | e <;> subst e <;> decide
  rw [← ways_sum n hn]
  exact sumN_congr (fun i hi => cnt_ways h3 h6 (by omega) (by omega))
def ringWinding (s : List Int) : Int × Bool := if StateP 3 s ∧ 3 ≤ s.length then (Int.tdiv (sumN (fun i => rise (G s i) (G s ((i + 1) % s.length))) s.length) 3, true) else (0, false)
theorem ring_sum_bd (f : Nat → Int) (h : ∀ i, -1 ≤ f i ∧ f i ≤ 1) (n : Nat) : -(n : Int) ≤ sumN f n ∧ sumN f n ≤ n := by
  have := sumN_bound (f := f) (n := n) (b := 1) (fun i _ => h i)
  omega
theorem ring_div_bd {x : Int} (h : -6 ≤ x) (h2 : x ≤ 6) : -10 ≤ Int.tdiv x 3 ∧ Int.tdiv x 3 ≤ 10 := by
  by_cases e : 0 ≤ x
  · rw [Int.tdiv_eq_ediv_of_nonneg e]; omega
  · have h2 : Int.tdiv x 3 = - Int.tdiv (- x) 3 := by rw [Int.neg_tdiv]; omega
    rw [h2, Int.tdiv_eq_ediv_of_nonneg (by omega)]; omega
end Go.Proofs.Ytkofidpgbmajdaa.C
