/- Steps from one node: what is come to is its part. -/
import Derived.Test.YtokhnnhinafnfaaTree
set_option linter.unusedSimpArgs false
set_option linter.unusedVariables false
namespace Go.Proofs.Ytokhnnhinafnfaa.C

theorem one_set {net : List Int} (h : NetP net) {i : Nat} (hi : i < net.length) : SetP net ((2 : Int) ^ i) := by
  refine ⟨h, Int.le_of_lt (Int.pow_pos (by decide)), ?_⟩
  have : (2 : Nat) ^ i < 2 ^ net.length := Nat.pow_lt_pow_right (by decide) hi
  have e1 : ((2 : Int) ^ i) = ((2 ^ i : Nat) : Int) := by simp
  have e2 : ((2 : Int) ^ net.length) = ((2 ^ net.length : Nat) : Int) := by simp
  omega
theorem dist_one {net : List Int} (h : NetP net) {i p : Nat} (hi : i < net.length) (hp : p < net.length) : 0 ≤ G (distRow net ((2 : Int) ^ i)) p ↔ WayTo net net.length i p := by
  have h6 := h.2.1
  rw [G_distRow hp]
  have hc : ∀ t, Rch net net.length (bitOf ((2 : Int) ^ i)) t p ↔ Rch net net.length (fun x => x = i) t p := by
    have key : ∀ t q, q < net.length → (Rch net net.length (bitOf ((2 : Int) ^ i)) t q ↔ Rch net net.length (fun x => x = i) t q) := by
      intro t
      induction t with
      | zero => intro q hq; exact bit_pow (by omega) (by omega)
      | succ t ih =>
        intro q hq
        simp only [Rch]
        rw [ih q hq]
        constructor
        · rintro (g | ⟨j, hj, hr, ha⟩)
          · exact Or.inl g
          · exact Or.inr ⟨j, hj, (ih j hj).1 hr, ha⟩
        · rintro (g | ⟨j, hj, hr, ha⟩)
          · exact Or.inl g
          · exact Or.inr ⟨j, hj, (ih j hj).2 hr, ha⟩
    exact fun t => key t p hp
  constructor
  · intro hge
    rcases distOf_cases net net.length (bitOf ((2 : Int) ^ i)) p with ⟨d, hd, e⟩ | ⟨_, e⟩
    · exact rch_wayTo hi d p hp ((hc d).1 hd.1)
    · omega
  · intro hw
    obtain ⟨t, ht⟩ := wayTo_rch hw
    exact ((distOf_le (net := net) (n := net.length) (S := bitOf ((2 : Int) ^ i)) (i := p) t).2 ((hc t).2 ht)).1
theorem parts_eq {net : List Int} {i j : Nat} (hi : i < net.length) (hj : j < net.length) : G (partsRow net) j = G (partsRow net) i ↔ pLeast net net.length j = pLeast net net.length i := by
  rw [G_partsRow hi, G_partsRow hj]; omega
end Go.Proofs.Ytokhnnhinafnfaa.C
