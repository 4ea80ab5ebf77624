set_option linter.unusedVariables false
set_option linter.unusedSectionVars false
set_option linter.unusedSimpArgs false
/- Fringe search: the sums of products, the turned sums, the cells and which one is best, over lists of integers. No program in sight. -/
namespace SM

def okd (x : Int) : Prop := x = 0 ∨ x = -3 ∨ x = -1 ∨ x = 1 ∨ x = 3
def str (l : List Int) : Prop := l.length ≤ 256 ∧ ∀ x ∈ l, okd x
theorem str_get {l : List Int} (h : str l) (k : Nat) : okd (l.getD k 0) := by
  by_cases hk : k < l.length
  · simp only [List.getD_eq_getElem?_getD, List.getElem?_eq_getElem hk, Option.getD_some]
    exact h.2 _ (List.getElem_mem hk)
  · simp only [List.getD_eq_getElem?_getD, List.getElem?_eq_none (Nat.le_of_not_lt hk), Option.getD_none]
    exact .inl rfl
theorem okd_mul {a b : Int} (ha : okd a) (hb : okd b) : -9 ≤ a * b ∧ a * b ≤ 9 := by
  rcases ha with rfl | rfl | rfl | rfl | rfl <;> rcases hb with rfl | rfl | rfl | rfl | rfl <;> decide
theorem str_nil : str [] := ⟨by simp, fun x h => by simp at h⟩

section
variable (x y : List Int) (d : Int)
def pr (k : Nat) : Int := if 0 ≤ (k : Int) + d ∧ (k : Int) + d < y.length then x.getD k 0 * y.getD ((k : Int) + d).toNat 0 else 0
theorem pr_bound (hx : str x) (hy : str y) (k : Nat) : -9 ≤ pr x y d k ∧ pr x y d k ≤ 9 := by
  unfold pr
  split
  · exact okd_mul (str_get hx _) (str_get hy _)
  · omega
variable (st : Nat)
def S (t : Nat) : Nat → Int
  | 0 => 0
  | k + 1 => S t k + if k / st % 4 = t then pr x y d k else 0
theorem S_bound (hx : str x) (hy : str y) (t n : Nat) : -9 * (n : Int) ≤ S x y d st t n ∧ S x y d st t n ≤ 9 * (n : Int) := by
  induction n with
  | zero => simp [S]
  | succ n ih =>
    have := pr_bound x y d hx hy n
    rw [S]
    split <;> omega
end
def Tz (q a b : Int) : Int × Int := if q % 4 = 0 then (a, b) else if q % 4 = 1 then (-b, a) else if q % 4 = 2 then (-a, -b) else (b, -a)
def V (r : Int) (s : Nat → Int) : Int × Int := if r = 0 then (s 0 + s 1 + s 2 + s 3, 0) else if r = 1 then (s 0 - s 2, s 3 - s 1) else if r = 2 then (s 0 - s 1 + s 2 - s 3, 0) else (s 0 - s 2, s 1 - s 3)
section
variable (x y : List Int) (d : Int) (st : Nat) (r : Int)
def W : Nat → Int × Int
  | 0 => (0, 0)
  | k + 1 => ((W k).1 + (Tz (-r * ((k / st : Nat) : Int)) (pr x y d k) 0).1, (W k).2 + (Tz (-r * ((k / st : Nat) : Int)) (pr x y d k) 0).2)
theorem W_eq (hr : 0 ≤ r ∧ r ≤ 3) (n : Nat) : W x y d st r n = V r (fun t => S x y d st t n) := by
  induction n with
  | zero =>
    unfold V W
    simp only [S]
    split
    · rfl
    · split
      · rfl
      · split <;> rfl
  | succ n ih =>
    rw [W, ih]
    unfold V Tz
    simp only [S]
    generalize n / st = m
    generalize pr x y d n = p
    have hm : (m % 4 = 0 ∨ m % 4 = 1) ∨ m % 4 = 2 ∨ m % 4 = 3 := by omega
    have hr4 : (r = 0 ∨ r = 1) ∨ r = 2 ∨ r = 3 := by omega
    rcases hr4 with (rfl | rfl) | rfl | rfl <;> rcases hm with (h | h) | h | h <;> rw [h]
    all_goals first
      | (have e : -0 * (m : Int) % 4 = 0 := by omega
         rw [e]; simp; omega)
      | (have e : -1 * (m : Int) % 4 = 0 := by omega
         rw [e]; simp; try omega)
      | (have e : -1 * (m : Int) % 4 = 1 := by omega
         rw [e]; simp; try omega)
      | (have e : -1 * (m : Int) % 4 = 2 := by omega
         rw [e]; simp; try omega)
      | (have e : -1 * (m : Int) % 4 = 3 := by omega
         rw [e]; simp; try omega)
      | (have e : -2 * (m : Int) % 4 = 0 := by omega
         rw [e]; simp; try omega)
      | (have e : -2 * (m : Int) % 4 = 2 := by omega
         rw [e]; simp; try omega)
      | (have e : -3 * (m : Int) % 4 = 0 := by omega
         rw [e]; simp; try omega)
      | (have e : -3 * (m : Int) % 4 = 1 := by omega
         rw [e]; simp; try omega)
      | (have e : -3 * (m : Int) % 4 = 2 := by omega
         rw [e]; simp; try omega)
      | (have e : -3 * (m : Int) % 4 = 3 := by omega
         rw [e]; simp; try omega)
end
theorem V_bound {s : Nat → Int} (h : ∀ t, -2304 ≤ s t ∧ s t ≤ 2304) (r : Int) : (-9216 ≤ (V r s).1 ∧ (V r s).1 ≤ 9216) ∧ -9216 ≤ (V r s).2 ∧ (V r s).2 ≤ 9216 := by
  have h0 := h 0
  have h1 := h 1
  have h2 := h 2
  have h3 := h 3
  unfold V
  split
  · dsimp only; omega
  · split
    · dsimp only; omega
    · split <;> dsimp only <;> omega
def pw (v : Int × Int) : Int := v.1 * v.1 + v.2 * v.2
theorem sq_bound {a b : Int} (hb : 0 ≤ b) (h1 : -b ≤ a) (h2 : a ≤ b) : 0 ≤ a * a ∧ a * a ≤ b * b := by
  constructor
  · rcases Int.le_total 0 a with h | h
    · exact Int.mul_nonneg h h
    · exact Int.mul_nonneg_of_nonpos_of_nonpos h h
  · rcases Int.le_total 0 a with h | h
    · exact Int.mul_le_mul h2 h2 h hb
    · have := Int.mul_le_mul (show -a ≤ b by omega) (show -a ≤ b by omega) (by omega) hb
      rwa [Int.neg_mul_neg] at this
theorem parseval (s : Nat → Int) : pw (V 0 s) + pw (V 1 s) + pw (V 2 s) + pw (V 3 s) = 4 * (s 0 * s 0 + s 1 * s 1 + s 2 * s 2 + s 3 * s 3) := by
  simp only [pw, V]
  simp
  generalize s 0 = a
  generalize s 1 = b
  generalize s 2 = c
  generalize s 3 = e
  grind
end SM
