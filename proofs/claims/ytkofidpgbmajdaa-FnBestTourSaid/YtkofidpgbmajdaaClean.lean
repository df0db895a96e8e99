/- Plain lists of integers: reading, making, sums; nets and states as plain statements. No program in sight. -/
set_option linter.unusedSimpArgs false
set_option linter.unusedVariables false
namespace Go.Proofs.Ytkofidpgbmajdaa.C

def G (l : List Int) (i : Nat) : Int := l.getD i 0
def mk (n : Nat) (f : Nat → Int) : List Int := (List.range n).map f

theorem mk_length (n : Nat) (f : Nat → Int) : (mk n f).length = n := by simp [mk]
theorem G_mk {n i : Nat} (f : Nat → Int) (h : i < n) : G (mk n f) i = f i := by
  simp [G, mk, List.getD, List.getElem?_map, List.getElem?_range h]
theorem mk_zero (f : Nat → Int) : mk 0 f = [] := rfl
theorem mk_succ (n : Nat) (f : Nat → Int) : mk (n + 1) f = mk n f ++ [f n] := by simp [mk, List.range_succ]
theorem G_of_lt {l : List Int} {i : Nat} (h : i < l.length) : G l i = l[i] := by simp [G, List.getD, List.getElem?_eq_getElem h]
theorem G_of_ge {l : List Int} {i : Nat} (h : l.length ≤ i) : G l i = 0 := by simp [G, List.getD, List.getElem?_eq_none h]
theorem G_mem {l : List Int} {i : Nat} (h : i < l.length) : G l i ∈ l := by rw [G_of_lt h]; exact List.getElem_mem h
theorem ext {l m : List Int} (h : l.length = m.length) (k : ∀ i, i < l.length → G l i = G m i) : l = m := by
  apply List.ext_getElem h
  intro i h1 h2
  have := k i h1
  rwa [G_of_lt h1, G_of_lt h2] at this
theorem mk_self (l : List Int) : mk l.length (G l) = l := ext (mk_length _ _) (fun i h => G_mk _ (by rwa [mk_length] at h))
theorem mk_congr {n : Nat} {f g : Nat → Int} (h : ∀ i, i < n → f i = g i) : mk n f = mk n g :=
  ext (by rw [mk_length, mk_length]) (fun i hi => by rw [mk_length] at hi; rw [G_mk _ hi, G_mk _ hi, h i hi])
theorem mk_eq_iff {n : Nat} {l : List Int} {f : Nat → Int} : l = mk n f ↔ l.length = n ∧ ∀ i, i < n → G l i = f i := by
  constructor
  · rintro rfl; exact ⟨mk_length _ _, fun i h => G_mk _ h⟩
  · rintro ⟨rfl, h⟩; exact ext (mk_length _ _).symm (fun i hi => by rw [h i hi, G_mk _ hi])
theorem G_set_self {l : List Int} {i : Nat} (v : Int) (h : i < l.length) : G (l.set i v) i = v := by simp [G, List.getD, h]
theorem G_set_ne {l : List Int} {i j : Nat} (v : Int) (h : j ≠ i) : G (l.set i v) j = G l j := by
  simp [G, List.getD, List.getElem?_set_ne (Ne.symm h)]
theorem G_append_left {l m : List Int} {i : Nat} (h : i < l.length) : G (l ++ m) i = G l i := by
  simp [G, List.getD, List.getElem?_append_left h]
theorem G_append_right {l m : List Int} {i : Nat} (h : l.length ≤ i) : G (l ++ m) i = G m (i - l.length) := by
  simp [G, List.getD, List.getElem?_append_right h]
theorem G_take {l : List Int} {i n : Nat} (h : i < n) : G (l.take n) i = G l i := by
  simp [G, List.getD, List.getElem?_take, h]
theorem G_drop {l : List Int} {i n : Nat} : G (l.drop n) i = G l (n + i) := by
  simp [G, List.getD, List.getElem?_drop]
theorem G_cons_zero (a : Int) (l : List Int) : G (a :: l) 0 = a := rfl
theorem G_cons_succ (a : Int) (l : List Int) (i : Nat) : G (a :: l) (i + 1) = G l i := by simp [G]
theorem mk_set {n i : Nat} {f : Nat → Int} {v : Int} (_h : i < n) : (mk n f).set i v = mk n (fun j => if j = i then v else f j) := by
  refine ext (by simp [mk_length]) (fun j hj => ?_)
  simp only [List.length_set, mk_length] at hj
  rw [G_mk _ hj]
  by_cases e : j = i
  · subst e; rw [G_set_self _ (by rw [mk_length]; exact hj), if_pos rfl]
  · rw [G_set_ne _ e, G_mk _ hj, if_neg e]
theorem replicate_mk (n : Nat) : List.replicate n (0 : Int) = mk n (fun _ => 0) := by
  refine ext (by simp [mk_length]) (fun j hj => ?_)
  rw [G_mk _ (by simpa using hj)]
  have hj' : j < n := by simpa using hj
  simp [G, List.getD, List.getElem?_replicate, hj']

/-- The sum of the first n values. -/
def sumN (f : Nat → Int) : Nat → Int
  | 0 => 0
  | n + 1 => sumN f n + f n
theorem sumN_congr {f g : Nat → Int} {n : Nat} (h : ∀ i, i < n → f i = g i) : sumN f n = sumN g n := by
  induction n with
  | zero => rfl
  | succ n ih => simp only [sumN]; rw [ih (fun i hi => h i (by omega)), h n (by omega)]
theorem sumN_neg (f : Nat → Int) (n : Nat) : sumN (fun i => - f i) n = - sumN f n := by
  induction n with
  | zero => rfl
  | succ n ih => simp only [sumN]; rw [ih]; omega
theorem sumN_bound {f : Nat → Int} {n : Nat} {b : Int} (h : ∀ i, i < n → -b ≤ f i ∧ f i ≤ b) : -(b * n) ≤ sumN f n ∧ sumN f n ≤ b * n := by
  induction n with
  | zero => simp [sumN]
  | succ n ih =>
    have h1 := ih (fun i hi => h i (by omega))
    have h2 := h n (by omega)
    have h3 : b * ((n + 1 : Nat) : Int) = b * n + b := by rw [Int.natCast_add, Int.mul_add]; simp
    simp only [sumN]; rw [h3]; omega

/-! nets -/
def adj (net : List Int) (i j : Nat) : Prop := G net i / 2 ^ j % 2 = 1
instance (net : List Int) (i j : Nat) : Decidable (adj net i j) := by unfold adj; infer_instance
def NetP (net : List Int) : Prop := 1 ≤ net.length ∧ net.length ≤ 6 ∧
  ∀ i, i < net.length → (0 ≤ G net i ∧ G net i < 2 ^ net.length ∧ ¬ adj net i i ∧ ∀ k, k < net.length → (adj net i k ↔ adj net k i))
instance (net : List Int) : Decidable (NetP net) := by unfold NetP; infer_instance
/-! states -/
def StateP (kinds : Int) (s : List Int) : Prop := 3 ≤ kinds ∧ kinds ≤ 5 ∧ 1 ≤ s.length ∧ s.length ≤ 6 ∧ ∀ i, i < s.length → (0 ≤ G s i ∧ G s i < kinds)
instance (kinds : Int) (s : List Int) : Decidable (StateP kinds s) := by unfold StateP; infer_instance
def Asked (net : List Int) (kinds : Int) (s : List Int) : Prop := NetP net ∧ StateP kinds s ∧ net.length = s.length
instance (net : List Int) (kinds : Int) (s : List Int) : Decidable (Asked net kinds s) := by unfold Asked; infer_instance

theorem adj_sym {net : List Int} (h : NetP net) {i j : Nat} (hi : i < net.length) (hj : j < net.length) : adj net i j ↔ adj net j i := (h.2.2 i hi).2.2.2 j hj
theorem adj_irr {net : List Int} (h : NetP net) {i : Nat} (hi : i < net.length) : ¬ adj net i i := (h.2.2 i hi).2.2.1

theorem asked6 {net s : List Int} {k : Int} (h : Asked net k s) : s.length ≤ 6 := h.2.1.2.2.2.1
theorem asked1 {net s : List Int} {k : Int} (h : Asked net k s) : 1 ≤ s.length := h.2.1.2.2.1

/-! fronts -/
def FrontsP (row : List Int) : Prop := 3 ≤ row.length ∧ row.length ≤ 6 ∧ (∀ i, i < row.length → (-1 ≤ G row i ∧ G row i ≤ 1)) ∧ sumN (G row) row.length % 3 = 0
instance (row : List Int) : Decidable (FrontsP row) := by unfold FrontsP; infer_instance
/-- How much one climbs from a kind to another one. -/
def rise (a b : Int) : Int := (b - a + 4) % 3 - 1
/-- The fronts of a state of a ring. -/
def frontRow (l : List Int) : List Int := if StateP 3 l ∧ 3 ≤ l.length then mk l.length (fun i => rise (G l i) (G l ((i + 1) % l.length))) else []
/-- How many of the first n values are v. -/
def countN (f : Nat → Int) (v : Int) : Nat → Int
  | 0 => 0
  | n + 1 => countN f v n + if f n = v then 1 else 0
theorem countN_bound (f : Nat → Int) (v : Int) (n : Nat) : 0 ≤ countN f v n ∧ countN f v n ≤ n := by
  induction n with
  | zero => simp [countN]
  | succ n ih => simp only [countN]; split <;> omega

end Go.Proofs.Ytkofidpgbmajdaa.C
