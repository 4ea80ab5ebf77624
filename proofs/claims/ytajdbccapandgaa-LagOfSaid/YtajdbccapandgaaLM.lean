import Derived.Test.YtajdbccapandgaaSM
set_option linter.unusedVariables false
set_option linter.unusedSectionVars false
/- The sum and the count of a lag. No program in sight. -/
namespace SM
section
variable (x y : List Int) (d : Int)
def tot : Nat → Int
  | 0 => 0
  | k + 1 => tot k + pr x y d k
def cnt : Nat → Int
  | 0 => 0
  | k + 1 => cnt k + if pr x y d k = 0 then 0 else 1
theorem tot_bound (hx : str x) (hy : str y) (n : Nat) : -9 * (n : Int) ≤ tot x y d n ∧ tot x y d n ≤ 9 * (n : Int) := by
  induction n with
  | zero => simp [tot]
  | succ n ih =>
    have := pr_bound x y d hx hy n
    rw [tot]
    omega
theorem cnt_bound (n : Nat) : 0 ≤ cnt x y d n ∧ cnt x y d n ≤ n := by
  induction n with
  | zero => simp [cnt]
  | succ n ih =>
    rw [cnt]
    split <;> omega
theorem S_sum (st n : Nat) : S x y d st 0 n + S x y d st 1 n + S x y d st 2 n + S x y d st 3 n = tot x y d n := by
  induction n with
  | zero => rfl
  | succ n ih =>
    simp only [S, tot]
    have hm : (n / st % 4 = 0 ∨ n / st % 4 = 1) ∨ n / st % 4 = 2 ∨ n / st % 4 = 3 := by omega
    rcases hm with (h | h) | h | h <;> rw [h] <;> simp <;> omega
end
end SM
