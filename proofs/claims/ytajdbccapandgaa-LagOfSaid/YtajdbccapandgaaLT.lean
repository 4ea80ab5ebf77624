import Derived.Test.YtajdbccapandgaaLM
set_option linter.unusedVariables false
set_option linter.unusedSectionVars false
/- All lags together: the product of the sums, and of the counts. No program in sight. -/
namespace SM

def YS (y : List Int) : Nat → Int
  | 0 => 0
  | m + 1 => YS y m + y.getD m 0
theorem YS_past (y : List Int) : ∀ m, y.length ≤ m → YS y m = YS y y.length := by
  intro m
  induction m with
  | zero => intro h; rw [Nat.le_zero.1 h]
  | succ m ih =>
    intro h
    by_cases h1 : y.length ≤ m
    · rw [YS, ih h1]
      have : y.getD m 0 = 0 := by simp [List.getD_eq_getElem?_getD, List.getElem?_eq_none h1]
      omega
    · have : y.length = m + 1 := by omega
      rw [this]
def sumJ (f : Nat → Int) : Nat → Int
  | 0 => 0
  | j + 1 => sumJ f j + f j
theorem sumJ_add (f g : Nat → Int) : ∀ J, sumJ (fun j => f j + g j) J = sumJ f J + sumJ g J
  | 0 => rfl
  | J + 1 => by rw [sumJ, sumJ, sumJ, sumJ_add f g J]; omega
theorem sumJ_zero : ∀ J, sumJ (fun _ => 0) J = 0
  | 0 => rfl
  | J + 1 => by rw [sumJ, sumJ_zero J]; rfl
section
variable (x y : List Int) (M : Nat)
theorem row_sum (k : Nat) (hk : k ≤ M) : ∀ J, sumJ (fun j => pr x y ((j : Int) - M) k) J = x.getD k 0 * YS y (k + J - M) := by
  intro J
  induction J with
  | zero =>
    rw [show k + 0 - M = 0 by omega]
    simp [sumJ, YS]
  | succ J ih =>
    rw [sumJ, ih]
    unfold pr
    by_cases h0 : M ≤ k + J
    · have e1 : k + (J + 1) - M = (k + J - M) + 1 := by omega
      have e2 : ((k : Int) + ((J : Int) - M)).toNat = k + J - M := by omega
      rw [e1, YS, e2]
      by_cases h1 : k + J - M < y.length
      · rw [if_pos (by omega), Int.mul_add]
      · have e : y.getD (k + J - M) 0 = 0 := by simp [List.getD_eq_getElem?_getD, List.getElem?_eq_none (Nat.le_of_not_lt h1)]
        rw [if_neg (by omega), e]
        simp
    · have e1 : k + (J + 1) - M = 0 := by omega
      have e2 : k + J - M = 0 := by omega
      rw [if_neg (by omega), e1, e2, YS]
      simp
theorem all_sum (hx : x.length ≤ M + 1) (hy : y.length ≤ M + 1) : ∀ n, n ≤ x.length → sumJ (fun j => tot x y ((j : Int) - M) n) (2 * M + 1) = YS x n * YS y y.length := by
  intro n
  induction n with
  | zero =>
    intro _
    simp only [tot]
    rw [sumJ_zero]
    simp [YS]
  | succ n ih =>
    intro hn
    have e : (fun j : Nat => tot x y ((j : Int) - M) (n + 1)) = fun j : Nat => tot x y ((j : Int) - M) n + pr x y ((j : Int) - M) n := rfl
    rw [e, sumJ_add, ih (by omega), row_sum x y M n (by omega), YS_past y (n + (2 * M + 1) - M) (by omega), YS, Int.add_mul]
end
def ind (l : List Int) : List Int := l.map (fun a => if a = 0 then 0 else 1)
theorem ind_length (l : List Int) : (ind l).length = l.length := List.length_map _
theorem ind_getD (l : List Int) (k : Nat) : (ind l).getD k 0 = if l.getD k 0 = 0 then 0 else 1 := by
  simp only [ind, List.getD_eq_getElem?_getD, List.getElem?_map]
  cases h : l[k]? with
  | none => simp
  | some a => simp
theorem ind_pr (x y : List Int) (d : Int) (k : Nat) : pr (ind x) (ind y) d k = if pr x y d k = 0 then 0 else 1 := by
  unfold pr
  rw [ind_length, ind_getD, ind_getD]
  by_cases h : 0 ≤ (k : Int) + d ∧ (k : Int) + d < y.length
  · rw [if_pos h, if_pos h]
    by_cases h1 : x.getD k 0 = 0
    · rw [if_pos h1, h1]; simp
    · by_cases h2 : y.getD ((k : Int) + d).toNat 0 = 0
      · rw [if_pos h2, h2]; simp
      · have := Int.mul_ne_zero h1 h2
        rw [if_neg h1, if_neg h2, if_neg this]
        rfl
  · rw [if_neg h, if_neg h]; simp
theorem cnt_ind (x y : List Int) (d : Int) : ∀ n, cnt x y d n = tot (ind x) (ind y) d n
  | 0 => rfl
  | n + 1 => by rw [cnt, tot, cnt_ind x y d n, ind_pr]
/-! what a lag has -/
theorem okd_odd {a b : Int} (ha : okd a) (hb : okd b) : a * b = 0 ∨ (a * b) % 2 = 1 := by
  rcases ha with rfl | rfl | rfl | rfl | rfl <;> rcases hb with rfl | rfl | rfl | rfl | rfl <;> decide
theorem lag_ok {x y : List Int} (hx : str x) (hy : str y) (d : Int) (n : Nat) : -9 * cnt x y d n ≤ tot x y d n ∧ tot x y d n ≤ 9 * cnt x y d n ∧ (tot x y d n - cnt x y d n) % 2 = 0 := by
  induction n with
  | zero => simp [tot, cnt]
  | succ n ih =>
    have hb := pr_bound x y d hx hy n
    have ho : pr x y d n = 0 ∨ pr x y d n % 2 = 1 := by
      unfold pr
      split
      · exact okd_odd (str_get hx _) (str_get hy _)
      · exact .inl rfl
    rw [tot, cnt]
    by_cases h : pr x y d n = 0
    · rw [if_pos h, h]; omega
    · rw [if_neg h]; omega
end SM
