import Derived.Test.YtajdbccapandgaaLT
set_option linter.unusedVariables false
set_option linter.unusedSectionVars false
/- The lags of y and x; the lags of a stream with itself. No program in sight. -/
namespace SM
def prg (g : Nat → Nat → Int) (m : Nat) (d : Int) (k : Nat) : Int := if 0 ≤ (k : Int) + d ∧ (k : Int) + d < m then g k ((k : Int) + d).toNat else 0
theorem prg_sum (g : Nat → Nat → Int) (d : Int) (k : Nat) : ∀ m, sumJ (fun l => if (l : Int) = k + d then g k l else 0) m = prg g m d k
  | 0 => by
    unfold prg
    rw [if_neg (by omega)]
    rfl
  | m + 1 => by
    rw [sumJ, prg_sum g d k m]
    unfold prg
    by_cases h : (m : Int) = k + d
    · rw [if_neg (by omega), if_pos h, if_pos (by omega)]
      have : ((k : Int) + d).toNat = m := by omega
      rw [this]
      omega
    · rw [if_neg h]
      by_cases h1 : 0 ≤ (k : Int) + d ∧ (k : Int) + d < m
      · rw [if_pos h1, if_pos (by omega)]; omega
      · rw [if_neg h1, if_neg (by omega)]; omega
theorem sumJ_comm (f : Nat → Nat → Int) (m : Nat) : ∀ n, sumJ (fun k => sumJ (f k) m) n = sumJ (fun l => sumJ (fun k => f k l) n) m
  | 0 => by
    simp only [sumJ]
    rw [sumJ_zero]
  | n + 1 => by
    rw [sumJ, sumJ_comm f m n, ← sumJ_add]
    rfl
theorem sumJ_congr {f g : Nat → Int} : ∀ n, (∀ k, k < n → f k = g k) → sumJ f n = sumJ g n
  | 0, _ => rfl
  | n + 1, h => by rw [sumJ, sumJ, sumJ_congr n (fun k hk => h k (by omega)), h n (by omega)]
theorem sumJ_le {f g : Nat → Int} : ∀ n, (∀ k, k < n → f k ≤ g k) → sumJ f n ≤ sumJ g n
  | 0, _ => Int.le_refl _
  | n + 1, h => by
    have := sumJ_le n (fun k hk => h k (by omega))
    have := h n (by omega)
    rw [sumJ, sumJ]
    omega
theorem turn_sum (g : Nat → Nat → Int) (d : Int) (m n : Nat) : sumJ (prg g m d) n = sumJ (prg (fun l k => g k l) n (-d)) m := by
  have e1 : sumJ (prg g m d) n = sumJ (fun k => sumJ (fun l => if (l : Int) = k + d then g k l else 0) m) n := sumJ_congr n (fun k _ => (prg_sum g d k m).symm)
  have e2 : sumJ (prg (fun l k => g k l) n (-d)) m = sumJ (fun l => sumJ (fun k => if (k : Int) = l + -d then g k l else 0) n) m := sumJ_congr m (fun l _ => (prg_sum (fun l k => g k l) (-d) l n).symm)
  rw [e1, e2, sumJ_comm]
  refine sumJ_congr m (fun l _ => sumJ_congr n (fun k _ => ?_))
  by_cases h : (l : Int) = k + d
  · rw [if_pos h, if_pos (by omega)]
  · rw [if_neg h, if_neg (by omega)]
theorem tot_prg (x y : List Int) (d : Int) : ∀ n, tot x y d n = sumJ (prg (fun k l => x.getD k 0 * y.getD l 0) y.length d) n
  | 0 => rfl
  | n + 1 => by
    rw [tot, sumJ, tot_prg x y d n]
    rfl
theorem tot_flip (x y : List Int) (d : Int) : tot x y d x.length = tot y x (-d) y.length := by
  rw [tot_prg, tot_prg, turn_sum]
  refine sumJ_congr _ (fun k _ => ?_)
  unfold prg
  split
  · exact Int.mul_comm _ _
  · rfl
theorem cnt_flip (x y : List Int) (d : Int) : cnt x y d x.length = cnt y x (-d) y.length := by
  rw [cnt_ind, cnt_ind, ← ind_length x, ← ind_length y]
  exact tot_flip (ind x) (ind y) d
theorem tot_self (x : List Int) : tot x x 0 x.length = sumJ (fun k => x.getD k 0 * x.getD k 0) x.length := by
  rw [tot_prg]
  refine sumJ_congr _ (fun k hk => ?_)
  unfold prg
  rw [if_pos (by omega)]
  have : ((k : Int) + 0).toNat = k := by omega
  rw [this]
theorem sq_nonneg (a : Int) : 0 ≤ a * a := by
  rcases Int.le_total 0 a with h | h
  · exact Int.mul_nonneg h h
  · exact Int.mul_nonneg_of_nonpos_of_nonpos h h
theorem tot_le (x : List Int) (d : Int) : tot x x d x.length ≤ tot x x 0 x.length := by
  have h1 : sumJ (prg (fun k l => x.getD k 0 * x.getD k 0) x.length d) x.length ≤ sumJ (fun k => x.getD k 0 * x.getD k 0) x.length := sumJ_le _ (fun k _ => by
    unfold prg
    have := sq_nonneg (x.getD k 0)
    split <;> (try dsimp only) <;> omega)
  have h2 : sumJ (prg (fun k l => x.getD l 0 * x.getD l 0) x.length d) x.length ≤ sumJ (fun k => x.getD k 0 * x.getD k 0) x.length := by
    rw [turn_sum]
    exact sumJ_le _ (fun k _ => by
      unfold prg
      have := sq_nonneg (x.getD k 0)
      split <;> (try dsimp only) <;> omega)
  have h3 : sumJ (fun k => 2 * prg (fun k l => x.getD k 0 * x.getD l 0) x.length d k) x.length ≤ sumJ (fun k => prg (fun k l => x.getD k 0 * x.getD k 0) x.length d k + prg (fun k l => x.getD l 0 * x.getD l 0) x.length d k) x.length := sumJ_le _ (fun k _ => by
    unfold prg
    split
    · have := sq_nonneg (x.getD k 0 - x.getD ((k : Int) + d).toNat 0)
      have e : (x.getD k 0 - x.getD ((k : Int) + d).toNat 0) * (x.getD k 0 - x.getD ((k : Int) + d).toNat 0) = x.getD k 0 * x.getD k 0 - 2 * (x.getD k 0 * x.getD ((k : Int) + d).toNat 0) + x.getD ((k : Int) + d).toNat 0 * x.getD ((k : Int) + d).toNat 0 := by grind
      dsimp only
      omega
    · omega)
  have h4 : sumJ (fun k => 2 * prg (fun k l => x.getD k 0 * x.getD l 0) x.length d k) x.length = 2 * tot x x d x.length := by
    rw [tot_prg]
    generalize x.length = n
    generalize prg (fun k l => x.getD k 0 * x.getD l 0) _ d = f
    induction n with
    | zero => rfl
    | succ n ih => rw [sumJ, sumJ, ih]; omega
  rw [sumJ_add, h4] at h3
  rw [tot_self]
  have e1 : sumJ (fun k => prg (fun k l => x.getD k 0 * x.getD k 0) x.length d k) x.length = sumJ (prg (fun k l => x.getD k 0 * x.getD k 0) x.length d) x.length := rfl
  have e2 : sumJ (fun k => prg (fun k l => x.getD l 0 * x.getD l 0) x.length d k) x.length = sumJ (prg (fun k l => x.getD l 0 * x.getD l 0) x.length d) x.length := rfl
  rw [e1, e2] at h3
  omega
def allz (x : List Int) : Nat → Bool
  | 0 => true
  | i + 1 => if allz x i = true then x.getD i 0 == 0 else false
theorem allz_true {x : List Int} : ∀ {n}, allz x n = true → ∀ k, k < n → x.getD k 0 = 0
  | 0, _, k, hk => by omega
  | n + 1, h, k, hk => by
    rw [allz] at h
    split at h
    · rename_i h1
      by_cases e : k = n
      · subst e; exact beq_iff_eq.1 h
      · exact allz_true h1 k (by omega)
    · contradiction
theorem allz_false {x : List Int} : ∀ {n}, allz x n = false → ∃ k, k < n ∧ x.getD k 0 ≠ 0
  | 0, h => by simp [allz] at h
  | n + 1, h => by
    rw [allz] at h
    split at h
    · exact ⟨n, by omega, by simpa using h⟩
    · rename_i h1
      obtain ⟨k, hk, h2⟩ := allz_false (Bool.eq_false_iff.2 h1)
      exact ⟨k, by omega, h2⟩
theorem cnt_zero {x : List Int} (h : ∀ k, k < x.length → x.getD k 0 = 0) (d : Int) : ∀ n, n ≤ x.length → cnt x x d n = 0
  | 0, _ => rfl
  | n + 1, hn => by
    have e : pr x x d n = 0 := by
      unfold pr
      rw [h n (by omega), Int.zero_mul]
      split <;> rfl
    rw [cnt, cnt_zero h d n (by omega), if_pos e]
    rfl
theorem cnt_pos {x : List Int} {k : Nat} (h : x.getD k 0 ≠ 0) (hl : k < x.length) : ∀ n, k < n → 0 < cnt x x 0 n
  | 0, hk => by omega
  | n + 1, hk => by
    have hc := (cnt_bound x x 0 n).1
    rw [cnt]
    by_cases e : k = n
    · subst e
      have : pr x x 0 k ≠ 0 := by
        unfold pr
        rw [if_pos (by omega)]
        have : ((k : Int) + 0).toNat = k := by omega
        rw [this]
        exact Int.mul_ne_zero h h
      rw [if_neg this]
      omega
    · have := cnt_pos h hl n (by omega)
      split <;> omega
end SM
