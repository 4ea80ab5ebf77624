/- Pure mathematics of transforms: sums over ranges modulo a prime, roots of one, the transform of a list, its inverse, convolutions, turns. No program in sight. -/
import Derived.Test.YtbeidonfmeengaaRM
set_option linter.unusedVariables false
set_option linter.unusedSimpArgs false
namespace FM
open RM

def S (n : Nat) (f : Nat → Nat) : Nat := match n with
  | 0 => 0
  | n + 1 => S n f + f n
theorem S_zero (f : Nat → Nat) : S 0 f = 0 := rfl
theorem S_succ (n : Nat) (f : Nat → Nat) : S (n + 1) f = S n f + f n := rfl
theorem S_congr {n : Nat} {f g : Nat → Nat} (h : ∀ j, j < n → f j = g j) : S n f = S n g := by
  induction n with
  | zero => rfl
  | succ n ih => rw [S_succ, S_succ, ih (fun j hj => h j (by omega)), h n (by omega)]
theorem S_mod {p n : Nat} {f g : Nat → Nat} (h : ∀ j, j < n → f j % p = g j % p) : S n f % p = S n g % p := by
  induction n with
  | zero => rfl
  | succ n ih => rw [S_succ, S_succ, Nat.add_mod, ih (fun j hj => h j (by omega)), h n (by omega), ← Nat.add_mod]
theorem S_add (n : Nat) (f g : Nat → Nat) : S n (fun j => f j + g j) = S n f + S n g := by
  induction n with
  | zero => rfl
  | succ n ih => rw [S_succ, S_succ, S_succ, ih]; omega
theorem S_mul (n c : Nat) (f : Nat → Nat) : S n (fun j => c * f j) = c * S n f := by
  induction n with
  | zero => rfl
  | succ n ih => rw [S_succ, S_succ, ih, Nat.mul_add]
theorem S_mulr (n c : Nat) (f : Nat → Nat) : S n (fun j => f j * c) = S n f * c := by
  rw [Nat.mul_comm, ← S_mul]; exact S_congr fun j _ => Nat.mul_comm _ _
theorem S_nil (n : Nat) : S n (fun _ => 0) = 0 := by
  induction n with
  | zero => rfl
  | succ n ih => rw [S_succ, ih]
theorem S_const (n c : Nat) : S n (fun _ => c) = n * c := by
  induction n with
  | zero => simp [S]
  | succ n ih => rw [S_succ, ih, Nat.succ_mul]
theorem S_swap (n m : Nat) (f : Nat → Nat → Nat) : S n (fun i => S m (fun j => f i j)) = S m (fun j => S n (fun i => f i j)) := by
  induction n with
  | zero => simp [S, S_nil]
  | succ n ih => simp only [S_succ, ih, S_add]
theorem S_split (a b : Nat) (f : Nat → Nat) : S (a + b) f = S a f + S b (fun j => f (a + j)) := by
  induction b with
  | zero => rfl
  | succ b ih => rw [← Nat.add_assoc, S_succ, S_succ, ih]; omega
theorem S_even_odd (m : Nat) (f : Nat → Nat) : S (2 * m) f = S m (fun j => f (2 * j)) + S m (fun j => f (2 * j + 1)) := by
  induction m with
  | zero => rfl
  | succ m ih => rw [show 2 * (m + 1) = 2 * m + 1 + 1 by omega, S_succ, S_succ, S_succ, S_succ, ih]; omega
theorem S_single {n j0 : Nat} {f : Nat → Nat} (h0 : j0 < n) (h : ∀ j, j < n → j ≠ j0 → f j = 0) : S n f = f j0 := by
  induction n with
  | zero => omega
  | succ n ih =>
    rw [S_succ]
    by_cases e : j0 = n
    · subst e
      rw [S_congr (g := fun _ => 0) (fun j hj => h j (by omega) (by omega)), S_nil, Nat.zero_add]
    · rw [h n (by omega) (fun hh => e hh.symm), ih (by omega) (fun j hj hne => h j (by omega) hne), Nat.add_zero]
theorem S_le {n c : Nat} {f : Nat → Nat} (h : ∀ j, j < n → f j ≤ c) : S n f ≤ n * c := by
  induction n with
  | zero => simp [S]
  | succ n ih => rw [S_succ, Nat.succ_mul]; have := ih (fun j hj => h j (by omega)); have := h n (by omega); omega
theorem S_rot {n d : Nat} (hd : d < n) (f : Nat → Nat) : S n (fun j => f ((j + d) % n)) = S n f := by
  have e1 : n = (n - d) + d := by omega
  have e2 : n = d + (n - d) := by omega
  have l : S n (fun j => f ((j + d) % n)) = S (n - d) (fun j => f (d + j)) + S d f := by
    conv => lhs; rw [e1]
    rw [S_split]
    congr 1
    · refine S_congr fun j hj => ?_
      rw [Nat.add_comm j d]
      congr 1
      rw [← e1]
      exact Nat.mod_eq_of_lt (by omega)
    · refine S_congr fun j hj => ?_
      congr 1
      rw [← e1, show n - d + j + d = n + j by omega, Nat.add_mod_left]
      exact Nat.mod_eq_of_lt (by omega)
  have r : S n f = S d f + S (n - d) (fun j => f (d + j)) := by
    conv => lhs; rw [e2]
    rw [S_split]
  omega
/-- With a shift the other way. -/
theorem S_rot' {n d : Nat} (hd : d ≤ n) (hn : 0 < n) (f : Nat → Nat) : S n (fun j => f ((j + n - d) % n)) = S n f := by
  by_cases e : d = 0
  · subst e
    refine S_congr fun j hj => ?_
    rw [Nat.sub_zero, Nat.add_mod_right, Nat.mod_eq_of_lt hj]
  · rw [← S_rot (d := n - d) (by omega) f]
    exact S_congr fun j hj => by rw [show j + n - d = j + (n - d) by omega]
/-! ### roots of one -/
theorem geo (x n : Nat) : S n (fun j => x ^ j) * x + 1 = S n (fun j => x ^ j) + x ^ n := by
  induction n with
  | zero => simp [S]
  | succ n ih =>
    rw [S_succ, Nat.add_mul, Nat.pow_succ]
    omega
theorem pmod {p a b : Nat} (h : a % p = b % p) (n : Nat) : a ^ n % p = b ^ n % p := by rw [Nat.pow_mod, h, ← Nat.pow_mod]
theorem mmod {p a b c d : Nat} (h : a % p = b % p) (k : c % p = d % p) : a * c % p = b * d % p := by rw [Nat.mul_mod, h, k, ← Nat.mul_mod]
theorem amod {p a b c d : Nat} (h : a % p = b % p) (k : c % p = d % p) : (a + c) % p = (b + d) % p := by rw [Nat.add_mod, h, k, ← Nat.add_mod]
theorem pow_mod_mul_r (p a b : Nat) : a * (b % p) % p = a * b % p := by rw [Nat.mul_mod, Nat.mod_mod, ← Nat.mul_mod]
theorem mm (a p : Nat) : a % p % p = a % p := Nat.mod_mod a p
theorem geo_zero {p w n k : Nat} (hp : Pr p) (hO : Ord p w n) (hk : ¬ n ∣ k) : S n (fun j => w ^ (j * k)) % p = 0 := by
  have hp2 := hp.1
  have hx : (w ^ k) ^ n % p = 1 := by rw [← Nat.pow_mul, Nat.mul_comm]; exact pow_one_mul hp2 hO.2.1 k
  have e : S n (fun j => w ^ (j * k)) = S n (fun j => (w ^ k) ^ j) := S_congr fun j _ => by rw [← Nat.pow_mul, Nat.mul_comm]
  rw [e]
  generalize hS : S n (fun j => (w ^ k) ^ j) = s
  have hg := geo (w ^ k) n
  rw [hS] at hg
  by_cases hd : p ∣ s
  · exact Nat.mod_eq_zero_of_dvd hd
  · exfalso
    have h1 : s * (w ^ k % p) % p = s * 1 % p := by
      have a : (s * w ^ k + 1) % p = (s + 1) % p := by
        rw [hg]; exact amod rfl (by rw [hx]; exact (Nat.mod_eq_of_lt (by omega)).symm)
      have b : s * w ^ k % p = s % p := by
        have c : (s * w ^ k + 1 + (p - 1)) % p = (s + 1 + (p - 1)) % p := amod a rfl
        rw [show s * w ^ k + 1 + (p - 1) = s * w ^ k + p by omega, show s + 1 + (p - 1) = s + p by omega, Nat.add_mod_right, Nat.add_mod_right] at c
        exact c
      rw [Nat.mul_one, ← b]
      exact mmod rfl (mm _ _)
    have h2 := hp.inj hd (Nat.mod_lt _ (by omega)) (by omega) h1
    exact hk (hO.dvd hp2 h2)
theorem geo_full {p w n k : Nat} (hp : Pr p) (hO : Ord p w n) (hk : n ∣ k) : S n (fun j => w ^ (j * k)) % p = n % p := by
  have hp2 := hp.1
  rw [S_mod (g := fun _ => 1), S_const, Nat.mul_one]
  intro j _
  obtain ⟨c, rfl⟩ := hk
  have := pow_one_mul hp2 hO.2.1 (j * c)
  rw [show j * (n * c) = n * (j * c) by rw [Nat.mul_left_comm]]
  rw [this]
  exact (Nat.mod_eq_of_lt (by omega)).symm
theorem pow_mod_n {p w n : Nat} (hp : 2 ≤ p) (hO : Ord p w n) (k : Nat) : w ^ (k % n) % p = w ^ k % p := by
  conv => rhs; rw [← Nat.div_add_mod k n, Nat.pow_add]
  have := pow_one_mul hp hO.2.1 (k / n)
  rw [Nat.mul_mod, this, Nat.one_mul, mm]
theorem pow_cong {p w n a b : Nat} (hp : 2 ≤ p) (hO : Ord p w n) (h : a % n = b % n) : w ^ a % p = w ^ b % p := by
  rw [← pow_mod_n hp hO a, h, pow_mod_n hp hO]
/-- What is a power of w, by the exponent n - 1, is its inverse. -/
theorem inv_pow {p w n : Nat} (hp : 2 ≤ p) (hO : Ord p w n) : w * (w ^ (n - 1) % p) % p = 1 := by
  have e : w * (w ^ (n - 1) % p) % p = w * w ^ (n - 1) % p := mmod rfl (mm _ _)
  have h1 := hO.1
  have e2 : w * w ^ (n - 1) = w ^ n := by
    obtain ⟨m, rfl⟩ : ∃ m, n = m + 1 := ⟨n - 1, by omega⟩
    rw [Nat.add_sub_cancel, Nat.pow_succ, Nat.mul_comm]
  rw [e, e2, hO.2.1]
theorem ndvd {p w n : Nat} (hp : Pr p) (hO : Ord p w n) : ¬ p ∣ w := by
  intro h
  have hp2 := hp.1
  have h1 := hO.1
  have : p ∣ w ^ n := Nat.dvd_trans h (by rw [show n = (n - 1) + 1 by omega, Nat.pow_succ]; exact Nat.dvd_mul_left _ _)
  have := Nat.mod_eq_zero_of_dvd this
  have := hO.2.1
  omega
theorem ord_inv {p w n : Nat} (hp : Pr p) (hO : Ord p w n) : Ord p (w ^ (n - 1) % p) n := by
  have hp2 := hp.1
  have h1 := hO.1
  refine ⟨h1, ?_, fun q hq hqn he => ?_⟩
  · rw [pow_mod_pow, Nat.mul_comm]; exact pow_one_mul hp2 hO.2.1 _
  · rw [pow_mod_pow] at he
    refine hO.2.2 q hq hqn ?_
    have : w ^ ((n - 1) * (n / q)) % p * (w ^ (n / q) % p) % p = 1 := by
      have e3 : ∀ c : Nat, (n - 1) * c + c = n * c := fun c => by
        obtain ⟨m, rfl⟩ : ∃ m, n = m + 1 := ⟨n - 1, by omega⟩
        rw [Nat.add_sub_cancel, Nat.succ_mul]
      rw [pow_mod_mul, e3]
      exact pow_one_mul hp2 hO.2.1 _
    rw [he, Nat.one_mul, mm] at this
    exact this
theorem inv_inv {p w n : Nat} (hp : Pr p) (hO : Ord p w n) (hw : w < p) : (w ^ (n - 1) % p) ^ (n - 1) % p = w := by
  have hp2 := hp.1
  have h1 := inv_pow hp2 (ord_inv hp hO)
  have h2 := inv_pow hp2 hO
  rw [Nat.mul_comm] at h2
  refine inv_unique hp (ndvd hp (ord_inv hp hO)) (Nat.mod_lt _ (by omega)) hw h1 h2
theorem ord_sq {p w m : Nat} (hp : 2 ≤ p) (hm : 1 ≤ m) (hO : Ord p w (2 * m)) : Ord p (w * w % p) m := by
  have e : ∀ k, (w * w % p) ^ k % p = w ^ (2 * k) % p := fun k => by
    rw [← Nat.pow_mod, ← Nat.pow_two, ← Nat.pow_mul]
  refine ⟨hm, by rw [e]; exact hO.2.1, fun q hq hqm he => ?_⟩
  rw [e] at he
  refine hO.2.2 q hq (Nat.dvd_trans hqm (Nat.dvd_mul_left _ _)) ?_
  rw [Nat.mul_div_assoc _ hqm]
  exact he
theorem ord_half {p w m : Nat} (hp : Pr p) (hm : 1 ≤ m) (hO : Ord p w (2 * m)) : w ^ m % p = p - 1 := by
  have hp2 := hp.1
  have h1 : w ^ m % p * (w ^ m % p) % p = 1 := by rw [pow_mod_mul, show m + m = 2 * m by omega]; exact hO.2.1
  have h2 : w ^ m % p ≠ 1 := by
    have := hO.2.2 2 ⟨by omega, fun d hd => by
      have h5 := Nat.le_of_dvd (by omega) hd
      have h6 : d ≠ 0 := fun h => by subst h; simp at hd
      omega⟩ (Nat.dvd_mul_right _ _)
    rwa [Nat.mul_div_cancel_left _ (by omega)] at this
  have hlt := Nat.mod_lt (w ^ m) (show 0 < p by omega)
  generalize w ^ m % p = x at *
  have hx0 : x ≠ 0 := by rintro rfl; simp at h1
  have hd : p ∣ (x - 1) * (x + 1) := by
    have e : (x - 1) * (x + 1) + 1 = x * x := by
      obtain ⟨y, rfl⟩ : ∃ y, x = y + 1 := ⟨x - 1, by omega⟩
      rw [Nat.add_sub_cancel]
      simp [Nat.mul_add, Nat.add_mul]; omega
    have h3 : ((x - 1) * (x + 1) + 1) % p = (0 + 1) % p := by rw [e, h1]; exact (Nat.mod_eq_of_lt (by omega)).symm
    have h4 : ((x - 1) * (x + 1) + 1 + (p - 1)) % p = (0 + 1 + (p - 1)) % p := amod h3 rfl
    rw [show (x - 1) * (x + 1) + 1 + (p - 1) = (x - 1) * (x + 1) + p by omega, Nat.add_mod_right, show 0 + 1 + (p - 1) = p by omega, Nat.mod_self] at h4
    exact Nat.dvd_of_mod_eq_zero h4
  rcases hp.dvd_mul hd with h | h
  · have := Nat.le_of_dvd (by omega) h; omega
  · have := Nat.le_of_dvd (by omega) h; omega
/-! ### the transform of a list -/
def at_ (l : List Nat) (j : Nat) : Nat := l.getD j 0
def tab (n : Nat) (f : Nat → Nat) : List Nat := (List.range n).map f
theorem tab_length (n : Nat) (f : Nat → Nat) : (tab n f).length = n := by simp [tab]
theorem at_tab {n : Nat} (f : Nat → Nat) {j : Nat} (h : j < n) : at_ (tab n f) j = f j := by simp [at_, tab, List.getD, h]
theorem tab_congr {n : Nat} {f g : Nat → Nat} (h : ∀ j, j < n → f j = g j) : tab n f = tab n g := List.map_congr_left fun j hj => h j (List.mem_range.1 hj)
theorem tab_at (l : List Nat) : tab l.length (at_ l) = l := by
  refine List.ext_getElem (by simp [tab]) fun i h1 h2 => ?_
  simp [tab, at_, List.getD, h2]
theorem tab_succ (n : Nat) (f : Nat → Nat) : tab (n + 1) f = tab n f ++ [f n] := by simp [tab, List.range_succ]
theorem eq_of_at {l m : List Nat} (hl : l.length = m.length) (h : ∀ j, j < l.length → at_ l j = at_ m j) : l = m := by
  rw [← tab_at l, ← tab_at m, hl]
  exact tab_congr fun j hj => h j (by omega)
theorem at_lt {p : Nat} {l : List Nat} (h : ∀ x ∈ l, x < p) (hp : 0 < p) (j : Nat) : at_ l j < p := by
  unfold at_
  rw [List.getD_eq_getElem?_getD]
  cases hj : l[j]? with
  | none => exact hp
  | some x => exact h x (List.mem_of_getElem? hj)
def fwd (p w : Nat) (l : List Nat) : List Nat := tab l.length fun k => S l.length (fun j => at_ l j * w ^ (j * k)) % p
theorem fwd_length (p w : Nat) (l : List Nat) : (fwd p w l).length = l.length := tab_length _ _
theorem at_fwd {p w k : Nat} {l : List Nat} (h : k < l.length) : at_ (fwd p w l) k = S l.length (fun j => at_ l j * w ^ (j * k)) % p := at_tab _ h
theorem fwd_lt {p w : Nat} (hp : 0 < p) (l : List Nat) : ∀ x ∈ fwd p w l, x < p := by
  intro x hx
  simp only [fwd, tab, List.mem_map] at hx
  obtain ⟨k, _, rfl⟩ := hx
  exact Nat.mod_lt _ hp
/-- The inverse, but for the factor n. -/
theorem fwd_inv {p w : Nat} (hp : Pr p) {l : List Nat} (hO : Ord p w l.length) (i : Nat) (hi : i < l.length) :
    at_ (fwd p (w ^ (l.length - 1) % p) (fwd p w l)) i = l.length * at_ l i % p := by
  have hp2 := hp.1
  rw [at_fwd (by rw [fwd_length]; exact hi), fwd_length]
  generalize hn : l.length = n at *
  have h1 : S n (fun k => at_ (fwd p w l) k * (w ^ (n - 1) % p) ^ (k * i)) % p = S n (fun k => S n (fun j => at_ l j * w ^ (k * (j + (n - 1) * i)))) % p := by
    refine S_mod fun k hk => ?_
    rw [at_fwd (by rw [hn]; exact hk), hn]
    refine (mmod (mm _ _) rfl).trans ?_
    rw [← S_mulr]
    refine S_mod fun j hj => ?_
    rw [Nat.mul_assoc]
    refine mmod rfl ?_
    have e : (w ^ (n - 1) % p) ^ (k * i) % p = w ^ ((n - 1) * (k * i)) % p := pow_mod_pow p w (n - 1) (k * i)
    refine (mmod rfl e).trans ?_
    rw [← Nat.pow_add]
    congr 2
    rw [Nat.mul_add, Nat.mul_comm j k, Nat.mul_left_comm (n - 1) k i]
  rw [h1, S_swap]
  have h2 : ∀ j, j < n → S n (fun k => at_ l j * w ^ (k * (j + (n - 1) * i))) % p = (if j = i then n * at_ l j else 0) % p := by
    intro j hj
    rw [S_mul]
    by_cases e : j = i
    · subst e
      rw [if_pos rfl, Nat.mul_comm n]
      refine mmod rfl (geo_full hp hO ⟨j, ?_⟩)
      obtain ⟨m, rfl⟩ : ∃ m, n = m + 1 := ⟨n - 1, by omega⟩
      rw [Nat.add_sub_cancel, Nat.succ_mul, Nat.add_comm]
    · rw [if_neg e]
      have : S n (fun k => w ^ (k * (j + (n - 1) * i))) % p = 0 := geo_zero hp hO (fun hd => e (by
        have h0 : (j + (n - 1) * i) % n = 0 := Nat.mod_eq_zero_of_dvd hd
        have h5 : (j + (n - 1) * i + i) % n = i := by rw [Nat.add_mod, h0, Nat.zero_add, mm]; exact Nat.mod_eq_of_lt hi
        have h6 : j + (n - 1) * i + i = j + n * i := by
          obtain ⟨m, rfl⟩ : ∃ m, n = m + 1 := ⟨n - 1, by omega⟩
          rw [Nat.add_sub_cancel, Nat.succ_mul]; omega
        rw [h6, Nat.add_mul_mod_self_left, Nat.mod_eq_of_lt hj] at h5
        exact h5))
      rw [Nat.mul_mod, this, Nat.mul_zero]
  rw [S_mod h2, S_single hi (fun j hj hne => if_neg hne), if_pos rfl]
def conv (p : Nat) (a b : List Nat) : List Nat := tab a.length fun k => S a.length (fun i => at_ a i * at_ b ((k + a.length - i) % a.length)) % p
theorem conv_length (p : Nat) (a b : List Nat) : (conv p a b).length = a.length := tab_length _ _
theorem shift_mod {n k i : Nat} (hi : i ≤ n) : ((k + n - i) % n + i) % n = k % n := by
  rw [Nat.mod_add_mod, show k + n - i + i = k + n by omega, Nat.add_mod_right]
theorem S_turn {p w n i t : Nat} (hp : 2 ≤ p) (hO : Ord p w n) (hi : i ≤ n) (b : Nat → Nat) : S n (fun k => b ((k + n - i) % n) * w ^ (k * t)) % p = S n (fun q => b q * w ^ (q * t)) * w ^ (i * t) % p := by
  have hn := hO.1
  rw [← S_mulr, ← S_rot' hi (by omega) (fun q => b q * w ^ (q * t) * w ^ (i * t))]
  refine S_mod fun k _ => ?_
  rw [Nat.mul_assoc, ← Nat.pow_add, ← Nat.add_mul]
  refine mmod rfl (pow_cong hp hO ?_)
  rw [Nat.mul_mod, Nat.mul_mod (_ + i), shift_mod hi]
theorem fwd_conv {p w : Nat} (hp : 2 ≤ p) {a b : List Nat} (hab : a.length = b.length) (hO : Ord p w a.length) {t : Nat} (ht : t < a.length) :
    at_ (fwd p w (conv p a b)) t = at_ (fwd p w a) t * at_ (fwd p w b) t % p := by
  rw [at_fwd (by rw [conv_length]; exact ht), at_fwd ht, at_fwd (by omega), conv_length, ← hab]
  generalize hn : a.length = n at *
  have h1 : S n (fun k => at_ (conv p a b) k * w ^ (k * t)) % p = S n (fun k => S n (fun i => at_ a i * (at_ b ((k + n - i) % n) * w ^ (k * t)))) % p := by
    refine S_mod fun k hk => ?_
    rw [conv, at_tab _ (by omega), hn]
    refine (mmod (mm _ _) rfl).trans ?_
    rw [← S_mulr]
    exact congrArg (· % p) (S_congr fun i _ => Nat.mul_assoc _ _ _)
  rw [h1, S_swap]
  have h2 : S n (fun i => S n (fun k => at_ a i * (at_ b ((k + n - i) % n) * w ^ (k * t)))) % p = S n (fun i => at_ a i * w ^ (i * t) * S n (fun q => at_ b q * w ^ (q * t))) % p := by
    refine S_mod fun i hi => ?_
    rw [S_mul]
    refine (mmod rfl (S_turn hp hO (by omega) (at_ b))).trans ?_
    rw [Nat.mul_comm (S n _), Nat.mul_assoc]
  rw [h2, S_mulr, ← Nat.mul_mod]
def turn (d : Nat) (l : List Nat) : List Nat := tab l.length fun k => at_ l ((k + l.length - d) % l.length)
theorem turn_length (d : Nat) (l : List Nat) : (turn d l).length = l.length := tab_length _ _
theorem fwd_turn {p w d : Nat} (hp : 2 ≤ p) {l : List Nat} (hO : Ord p w l.length) (hd : d ≤ l.length) {k : Nat} (hk : k < l.length) :
    at_ (fwd p w (turn d l)) k = at_ (fwd p w l) k * w ^ (d * k) % p := by
  rw [at_fwd (by rw [turn_length]; exact hk), at_fwd hk, turn_length]
  refine Eq.trans ?_ (Eq.trans (S_turn hp hO hd (at_ l)) (mmod (mm _ _).symm rfl))
  exact congrArg (· % p) (S_congr fun j hj => by rw [turn, at_tab _ hj])
theorem mod_sub' {a n : Nat} (h1 : n ≤ a) (h2 : a < 2 * n) : a % n = a - n := by rw [Nat.mod_eq_sub_mod h1]; exact Nat.mod_eq_of_lt (by omega)
theorem back_mod {n d e j : Nat} (hd : d ≤ n) (he : e ≤ n) (h : (d + e) % n = 0) (hj : j < n) : ((j + n - e) % n + n - d) % n = j := by
  obtain ⟨c, hc⟩ := Nat.dvd_of_mod_eq_zero h
  have hc2 : c = 0 ∨ c = 1 ∨ c = 2 := by
    by_cases h3 : 3 ≤ c
    · have := Nat.mul_le_mul_left n h3
      omega
    · omega
  rcases hc2 with rfl | rfl | rfl
  · obtain rfl : d = 0 := by omega
    obtain rfl : e = 0 := by omega
    rw [mod_sub' (a := j + n - 0) (by omega) (by omega), mod_sub' (by omega) (by omega)]; omega
  · by_cases h4 : e ≤ j
    · by_cases h5 : e = 0
      · rw [mod_sub' (a := j + n - e) (by omega) (by omega), Nat.mod_eq_of_lt (by omega)]; omega
      · rw [mod_sub' (a := j + n - e) (by omega) (by omega)]
        by_cases h6 : d = n
        · omega
        · rw [Nat.mod_eq_of_lt (by omega)]; omega
    · rw [Nat.mod_eq_of_lt (a := j + n - e) (by omega), mod_sub' (by omega) (by omega)]; omega
  · rw [Nat.mod_eq_of_lt (a := j + n - e) (by omega), Nat.mod_eq_of_lt (by omega)]; omega
theorem turn_turn {d e : Nat} {l : List Nat} (hd : d ≤ l.length) (he : e ≤ l.length) (h : (d + e) % l.length = 0) : turn e (turn d l) = l := by
  refine eq_of_at (by rw [turn_length, turn_length]) fun j hj => ?_
  rw [turn_length, turn_length] at hj
  rw [turn, at_tab _ (by rw [turn_length]; exact hj), turn_length, turn, at_tab _ (Nat.mod_lt _ (by omega)), back_mod hd he h hj]
/-! ### how it is reckoned -/
def hor (p a : Nat) : List Nat → Nat
  | [] => 0
  | x :: l => (hor p a l * a + x) % p
theorem hor_eq (p a : Nat) (l : List Nat) : hor p a l = S l.length (fun j => at_ l j * a ^ j) % p := by
  induction l with
  | nil => simp [hor, S]
  | cons x l ih =>
    rw [hor, List.length_cons, show l.length + 1 = 1 + l.length by omega, S_split, ih]
    have e : S l.length (fun j => at_ (x :: l) (1 + j) * a ^ (1 + j)) = S l.length (fun j => at_ l j * a ^ j) * a := by
      rw [← S_mulr]
      exact S_congr fun j _ => by rw [Nat.pow_add, Nat.pow_one, Nat.mul_comm a, ← Nat.mul_assoc, Nat.add_comm 1 j]; rfl
    rw [e, Nat.add_comm]
    have e2 : S 1 (fun j => at_ (x :: l) j * a ^ j) = x := by simp [S, at_]
    rw [e2]
    exact amod rfl (mmod (mm _ _) rfl)
theorem fwd_hor {p w k : Nat} {l : List Nat} (hk : k < l.length) : at_ (fwd p w l) k = hor p (w ^ k % p) l := by
  rw [at_fwd hk, hor_eq]
  refine S_mod fun j _ => mmod rfl ?_
  rw [pow_mod_pow, Nat.mul_comm]
def evens (l : List Nat) : List Nat := tab (l.length / 2) fun i => at_ l (2 * i)
def odds (l : List Nat) : List Nat := tab (l.length / 2) fun i => at_ l (2 * i + 1)
theorem fwd_low {p w m k : Nat} {l : List Nat} (hl : l.length = 2 * m) (hk : k < m) :
    at_ (fwd p w l) k = (at_ (fwd p (w * w % p) (evens l)) k + w ^ k % p * at_ (fwd p (w * w % p) (odds l)) k % p) % p := by
  have le : (evens l).length = m := by rw [evens, tab_length, hl]; omega
  have lo : (odds l).length = m := by rw [odds, tab_length, hl]; omega
  rw [at_fwd (by omega), at_fwd (by omega), at_fwd (by omega), le, lo, hl, S_even_odd]
  have sq : ∀ j, (w * w % p) ^ j % p = w ^ (2 * j) % p := fun j => by rw [← Nat.pow_mod, ← Nat.pow_two, ← Nat.pow_mul]
  refine amod ((S_mod fun j hj => ?_).trans (mm _ _).symm) ?_
  · rw [evens, at_tab _ (by omega)]
    refine mmod rfl ?_
    rw [sq, Nat.mul_assoc]
  · rw [mm]
    refine Eq.trans ?_ (mmod (mm _ _).symm (mm _ _).symm)
    rw [← S_mul]
    refine S_mod fun j hj => ?_
    rw [odds, at_tab _ (by omega), Nat.mul_left_comm]
    refine mmod rfl ?_
    refine Eq.trans ?_ (mmod rfl (sq (j * k)).symm)
    rw [← Nat.pow_add]
    congr 2
    rw [Nat.add_mul, Nat.one_mul, Nat.add_comm, Nat.mul_assoc]
theorem fwd_high {p w m k : Nat} (hp : Pr p) {l : List Nat} (hl : l.length = 2 * m) (hO : Ord p w (2 * m)) (hk : k < m) :
    at_ (fwd p w l) (k + m) = (at_ (fwd p (w * w % p) (evens l)) k + p - w ^ k % p * at_ (fwd p (w * w % p) (odds l)) k % p) % p := by
  have hp2 := hp.1
  have le : (evens l).length = m := by rw [evens, tab_length, hl]; omega
  have lo : (odds l).length = m := by rw [odds, tab_length, hl]; omega
  have hhalf := ord_half hp (by omega) hO
  have hx := Nat.mod_lt (w ^ k % p * at_ (fwd p (w * w % p) (odds l)) k) (show 0 < p by omega)
  have key : ∀ A X : Nat, X < p → (A + p - X) % p = (A + (p - 1) * X) % p := by
    intro A X hX
    have e : A + (p - 1) * X + p = (A + p - X) + p * X := by
      obtain ⟨q, rfl⟩ : ∃ q, p = q + 1 := ⟨p - 1, by omega⟩
      rw [Nat.add_sub_cancel, Nat.succ_mul]; omega
    have : (A + (p - 1) * X + p) % p = (A + p - X) % p := by rw [e, Nat.add_mul_mod_self_left]
    rw [← this, Nat.add_mod_right]
  rw [key _ _ hx, at_fwd (by omega), at_fwd (by omega), at_fwd (by omega), le, lo, hl, S_even_odd]
  have sq : ∀ j, (w * w % p) ^ j % p = w ^ (2 * j) % p := fun j => by rw [← Nat.pow_mod, ← Nat.pow_two, ← Nat.pow_mul]
  refine amod ((S_mod fun j hj => ?_).trans (mm _ _).symm) ?_
  · rw [evens, at_tab _ (by omega)]
    refine mmod rfl ?_
    rw [sq]
    refine pow_cong hp2 hO ?_
    rw [show 2 * j * (k + m) = 2 * (j * k) + 2 * m * j by rw [Nat.mul_add, Nat.mul_assoc, Nat.mul_assoc 2 j m, Nat.mul_assoc 2 m j, Nat.mul_comm j m], Nat.add_mul_mod_self_left]
  · refine Eq.trans ?_ (mmod rfl (mm _ _).symm)
    refine Eq.trans ?_ (mmod rfl (mmod (mm _ _).symm (mm _ _).symm))
    rw [← S_mul, ← S_mul]
    refine S_mod fun j hj => ?_
    rw [odds, at_tab _ (by omega), Nat.mul_left_comm (w ^ k), Nat.mul_left_comm (p - 1)]
    refine mmod rfl ?_
    refine Eq.trans ?_ (mmod rfl (mmod rfl (sq (j * k)).symm))
    rw [← hhalf]
    refine Eq.trans ?_ (mmod (mm _ _).symm rfl)
    rw [← Nat.pow_add, ← Nat.pow_add]
    refine pow_cong hp2 hO ?_
    rw [show (2 * j + 1) * (k + m) = (m + (k + 2 * (j * k))) + 2 * m * j by
      rw [Nat.add_mul, Nat.one_mul, Nat.mul_add, Nat.mul_assoc, Nat.mul_assoc 2 j m, Nat.mul_assoc 2 m j, Nat.mul_comm j m]; omega, Nat.add_mul_mod_self_left]
theorem fwd_one {p w : Nat} {l : List Nat} (hl : l.length = 1) : fwd p w l = [at_ l 0 % p] := by
  simp [fwd, hl, tab, S]
theorem fwd_sum {p w : Nat} {l : List Nat} (hl : 0 < l.length) : at_ (fwd p w l) 0 = S l.length (at_ l) % p := by
  rw [at_fwd hl]
  exact congrArg (· % p) (S_congr fun j _ => by rw [Nat.mul_zero, Nat.pow_zero, Nat.mul_one])
end FM
