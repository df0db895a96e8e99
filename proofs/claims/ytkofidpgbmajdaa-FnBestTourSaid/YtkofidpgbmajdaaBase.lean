/- Small facts on the print's words: wrapping, shifts, bits, reading a list at a counted place; loops that come to an answer. -/
import Derived.Test.YtkofidpgbmajdaaClean
import Derived.Test.YtkofidpgbmajdaaWMore
import Derived.Test.YtkofidpgbmajdaaWSized
import Derived.Laws.BitsLemmas
import Derived.IntWalk
set_option linter.unusedSimpArgs false
set_option linter.unusedVariables false
namespace Go.Proofs.Ytkofidpgbmajdaa.B
open Go Go.RowKit Go.Proofs.YtkofidpgbmajdaaW.PrintWords Go.Proofs.YtkofidpgbmajdaaW.PrintLast Go.Proofs.Ytkofidpgbmajdaa.C

theorem w64 {n : Int} (h0 : -9223372036854775808 ≤ n) (h1 : n ≤ 9223372036854775807) : wrap64 n = n := by
  unfold wrap64; omega
theorem rdn (xs : List Int) (i : Nat) : rd xs (i : Int) = G xs i := rfl
theorem rd0 (xs : List Int) : rd xs 0 = G xs 0 := rfl
theorem tn (i : Nat) : ((i : Int)).toNat = i := rfl
theorem sc (i : Nat) : (i : Int) + 1 = ((i + 1 : Nat) : Int) := rfl
theorem wf_i64 {x : Int} : (Lit.int .i64 x).wf = true ↔ -9223372036854775808 ≤ x ∧ x ≤ 9223372036854775807 := by
  simp only [Lit.wf, IntKind.min, IntKind.max, IntKind.signed, IntKind.bits, Bool.and_eq_true, decide_eq_true_eq, if_true]
  omega
theorem wf_u8 {x : Int} : (Lit.int .u8 x).wf = true ↔ 0 ≤ x ∧ x ≤ 255 := by
  simp [Lit.wf, IntKind.min, IntKind.max, IntKind.signed, IntKind.bits]
theorem shr_eq (x : Int) {j : Nat} (h : j ≤ 64) : shr .i64 x (j : Int) = x / 2 ^ j := by
  unfold shr
  rw [tn, Nat.min_eq_left (by simpa [IntKind.bits] using h)]
theorem two_pow_cast (n : Nat) : ((2 : Int) ^ n) = ((2 ^ n : Nat) : Int) := by simp
theorem pow_lt63 {n : Nat} (h : n ≤ 62) : (2 : Int) ^ n ≤ 4611686018427387904 := by
  have : (2 : Nat) ^ n ≤ 2 ^ 62 := Nat.pow_le_pow_right (by decide) h
  rw [two_pow_cast]; omega
theorem pow_pos2 (n : Nat) : (0 : Int) < 2 ^ n := Int.pow_pos (by decide)
theorem shl1 {n : Nat} (h : n ≤ 62) : shl .i64 1 (n : Int) = 2 ^ n := by
  unfold shl
  rw [tn, Nat.min_eq_left (by simp [IntKind.bits]; omega), i64_w, Int.one_mul]
  have := pow_lt63 h; have := pow_pos2 n
  exact w64 (by omega) (by omega)
theorem and1 (x : Int) : Go.bits .and .i64 x 1 = x % 2 := by
  have h : (BitVec.ofInt 64 x &&& BitVec.ofInt 64 1).toNat = (x % 2).toNat := by
    rw [BitVec.toNat_and]
    have e1 : (BitVec.ofInt 64 1).toNat = 2 ^ 1 - 1 := by decide
    rw [e1, Nat.and_two_pow_sub_one_eq_mod, BitVec.toNat_ofInt]
    omega
  show IntKind.i64.wrap (((BitVec.ofInt 64 x &&& BitVec.ofInt 64 1).toNat : Nat) : Int) = _
  rw [h, i64_w]
  rw [w64] <;> omega
/-- A bit of a number, as the program asks for it. -/
theorem bit_and (x : Int) {j : Nat} (h : j ≤ 64) : Go.bits .and .i64 (shr .i64 x (j : Int)) 1 = x / 2 ^ j % 2 := by rw [shr_eq x h, and1]
theorem bit_mod (x : Int) {j : Nat} (h : j ≤ 64) (hx : 0 ≤ x) : Int.tmod (shr .i64 x (j : Int)) 2 = x / 2 ^ j % 2 := by
  rw [shr_eq x h, Int.tmod_eq_emod_of_nonneg (Int.ediv_nonneg hx (Int.le_of_lt (pow_pos2 j)))]
theorem tmod_nn {x y : Int} (h : 0 ≤ x) : Int.tmod x y = x % y := Int.tmod_eq_emod_of_nonneg h
theorem tdiv_nn {x y : Int} (h : 0 ≤ x) : Int.tdiv x y = x / y := Int.tdiv_eq_ediv_of_nonneg h
theorem tmod_nat (a b : Nat) : Int.tmod (a : Int) (b : Int) = ((a % b : Nat) : Int) := by
  rw [Int.tmod_eq_emod_of_nonneg (Int.natCast_nonneg a)]; exact (Int.natCast_emod a b).symm
theorem tmod_some (a b : Nat) (hb : 0 < b) : ∃ t : Nat, Int.tmod (a : Int) (b : Int) = (t : Int) ∧ t < b := ⟨a % b, tmod_nat a b, Nat.mod_lt a hb⟩
theorem tmod3 (x : Int) : (Int.tmod x 3 == 0) = decide (x % 3 = 0) := by
  rw [Bool.eq_iff_iff, beq_iff_eq, decide_eq_true_eq, ← Int.dvd_iff_tmod_eq_zero]
  omega
theorem bits_small (a b : Nat) (ha : a < 2 ^ 62) (hb : b < 2 ^ 62) : Go.bits .and .i64 (a : Int) (b : Int) = ((a &&& b : Nat) : Int) ∧ Go.bits .or .i64 (a : Int) (b : Int) = ((a ||| b : Nat) : Int) :=
  bits_nat .i64 62 (by decide) (fun n h0 h1 => by rw [i64_w]; exact w64 (by omega) (by omega)) a b ha hb

theorem bit_cast (m k : Nat) : ((m : Int) / 2 ^ k % 2 = 1) ↔ m.testBit k = true := by
  rw [Nat.testBit_eq_decide_div_mod_eq, decide_eq_true_eq]
  have : ((m : Int) / 2 ^ k % 2) = ((m / 2 ^ k % 2 : Nat) : Int) := by simp
  omega
/-- A node more in a set. -/
theorem or_bit {x : Int} (h0 : 0 ≤ x) (hx : x < 64) {j : Nat} (hj : j < 6) :
    ∃ y, Go.bits .or .i64 x (shl .i64 1 (j : Int)) = y ∧ 0 ≤ y ∧ y < 64 ∧ ∀ k : Nat, (y / 2 ^ k % 2 = 1 ↔ (x / 2 ^ k % 2 = 1 ∨ k = j)) := by
  obtain ⟨m, rfl⟩ := Int.eq_ofNat_of_zero_le h0
  have hm : m < 2 ^ 6 := by omega
  have hp : 2 ^ j < 2 ^ 6 := Nat.pow_lt_pow_right (by decide) hj
  have hor := Nat.or_lt_two_pow hm hp
  refine ⟨((m ||| 2 ^ j : Nat) : Int), ?_, Int.natCast_nonneg _, by omega, fun k => ?_⟩
  · rw [shl1 (by omega), two_pow_cast]
    exact (bits_small m (2 ^ j) (by omega) (by omega)).2
  · rw [bit_cast, bit_cast, Nat.testBit_or, Nat.testBit_two_pow, Bool.or_eq_true, decide_eq_true_eq]
    constructor
    · rintro (h | h)
      · exact Or.inl h
      · exact Or.inr h.symm
    · rintro (h | h)
      · exact Or.inl h
      · exact Or.inr h.symm
theorem or_two {x z : Int} (h0 : 0 ≤ x) (hx : x < 64) (g0 : 0 ≤ z) (hz : z < 64) :
    ∃ y, Go.bits .or .i64 x z = y ∧ 0 ≤ y ∧ y < 64 ∧ ∀ k : Nat, (y / 2 ^ k % 2 = 1 ↔ (x / 2 ^ k % 2 = 1 ∨ z / 2 ^ k % 2 = 1)) := by
  obtain ⟨m, rfl⟩ := Int.eq_ofNat_of_zero_le h0
  obtain ⟨n, rfl⟩ := Int.eq_ofNat_of_zero_le g0
  have hor := Nat.or_lt_two_pow (n := 6) (show m < 2 ^ 6 by omega) (show n < 2 ^ 6 by omega)
  refine ⟨((m ||| n : Nat) : Int), (bits_small m n (by omega) (by omega)).2, Int.natCast_nonneg _, by omega, fun k => ?_⟩
  rw [bit_cast, bit_cast, bit_cast, Nat.testBit_or, Bool.or_eq_true]
theorem andNot_two {x z : Int} (h0 : 0 ≤ x) (hx : x < 64) (g0 : 0 ≤ z) (hz : z < 64) :
    ∃ y, Go.bits .andNot .i64 x z = y ∧ 0 ≤ y ∧ y < 64 ∧ ∀ k : Nat, (y / 2 ^ k % 2 = 1 ↔ (x / 2 ^ k % 2 = 1 ∧ ¬ z / 2 ^ k % 2 = 1)) := by
  obtain ⟨m, rfl⟩ := Int.eq_ofNat_of_zero_le h0
  obtain ⟨n, rfl⟩ := Int.eq_ofNat_of_zero_le g0
  have hv : Go.bits .andNot .i64 (m : Int) (n : Int) = IntKind.i64.wrap (((BitVec.ofInt 64 (m : Int) &&& ~~~ BitVec.ofInt 64 (n : Int)).toNat : Nat) : Int) := rfl
  have hb : ∀ k : Nat, (BitVec.ofInt 64 (m : Int) &&& ~~~ BitVec.ofInt 64 (n : Int)).toNat.testBit k = (m.testBit k && !n.testBit k) := by
    intro k
    rw [BitVec.testBit_toNat, BitVec.ofInt_natCast, BitVec.ofInt_natCast, BitVec.getLsbD_and, BitVec.getLsbD_not, BitVec.getLsbD_ofNat, BitVec.getLsbD_ofNat]
    by_cases hk : k < 64
    · simp [hk]
    · have : m.testBit k = false := Nat.testBit_lt_two_pow (Nat.lt_of_lt_of_le (show m < 2 ^ 6 by omega) (Nat.pow_le_pow_right (by decide) (by omega)))
      simp [hk, this]
  obtain ⟨X, hX⟩ : ∃ X, X = (BitVec.ofInt 64 (m : Int) &&& ~~~ BitVec.ofInt 64 (n : Int)).toNat := ⟨_, rfl⟩
  rw [← hX] at hv hb
  have hlt : X < 2 ^ 6 := by
    apply Nat.lt_pow_two_of_testBit
    intro i hi
    rw [hb i, Nat.testBit_lt_two_pow (Nat.lt_of_lt_of_le (show m < 2 ^ 6 by omega) (Nat.pow_le_pow_right (by decide) hi))]
    rfl
  refine ⟨(X : Int), ?_, Int.natCast_nonneg _, by omega, fun k => ?_⟩
  · rw [hv, i64_w, w64 (by omega) (by omega)]
  · rw [bit_cast, bit_cast, bit_cast, hb k, Bool.and_eq_true, Bool.not_eq_true']
    simp
theorem shr_bit {x : Int} (h0 : 0 ≤ x) {j : Nat} (hj : j ≤ 64) : Int.tmod (shr .i64 x (j : Int)) 2 = x / 2 ^ j % 2 := bit_mod x hj h0

theorem Ev.val {α : Type} {a r : α} (h : a = r) : Ev (fun _ => some a) r := by rw [h]; exact Ev.now r

end Go.Proofs.Ytkofidpgbmajdaa.B

/-- The printed rows name this fact without its whole name: here it stands where they look. -/
abbrev Go.Proofs.Ytkofidpgbmajdaa.PrintWords.sized_ints := @Go.Proofs.YtkofidpgbmajdaaW.PrintWords.sized_ints
