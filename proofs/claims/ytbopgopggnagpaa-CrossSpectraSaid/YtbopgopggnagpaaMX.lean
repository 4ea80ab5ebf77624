/- Texts that belong together, put into one: RM, RLx, RL2x, RL3x, FM, FLx, FCx, FTx, CXM, SM, LM, LG, CK, XS. -/
import Derived.Laws.BitsLemmas
import Derived.Test.YtbopgopggnagpaaPAllx2
import Derived.Test.YtbopgopggnagpaaPAllx5
import Derived.Test.YtbopgopggnagpaaPAllx3
import Derived.Test.YtbopgopggnagpaaPAllx27
import Derived.Test.YtbopgopggnagpaaPAllx26
import Derived.Test.YtbopgopggnagpaaPAllx29
import Derived.Test.YtbopgopggnagpaaPAllx4
import Derived.Test.YtbopgopggnagpaaPAllx6
import Derived.Test.YtbopgopggnagpaaPAllx11
import Derived.Test.YtbopgopggnagpaaPAllx10
import Derived.Test.YtbopgopggnagpaaPAllx28
import Derived.Test.YtbopgopggnagpaaPAllx14
import Derived.Test.YtbopgopggnagpaaPAllx18
set_option linter.unusedVariables false
set_option linter.unusedSimpArgs false
/- Pure number theory: prime factors, Fermat, Euclid, orders and primitive roots, over natural numbers. No program in sight. -/
namespace RM

def Pr (p : Nat) : Prop := 2 ≤ p ∧ ∀ d, d ∣ p → d = 1 ∨ d = p

theorem Pr.two {p : Nat} (h : Pr p) : 2 ≤ p := h.1
theorem Pr.coprime {p a : Nat} (h : Pr p) (ha : ¬ p ∣ a) : Nat.Coprime p a := by
  have h1 := h.2 (Nat.gcd p a) (Nat.gcd_dvd_left p a)
  rcases h1 with h1 | h1
  · exact h1
  · exact absurd (h1 ▸ Nat.gcd_dvd_right p a) ha
theorem Pr.dvd_mul {p a b : Nat} (h : Pr p) (hd : p ∣ a * b) : p ∣ a ∨ p ∣ b := by
  by_cases ha : p ∣ a
  · exact .inl ha
  · exact .inr (Nat.Coprime.dvd_of_dvd_mul_left (h.coprime ha) hd)
theorem Pr.dvd_pow {p a : Nat} (h : Pr p) : ∀ n, p ∣ a ^ n → p ∣ a
  | 0, hd => by
    have := Nat.le_of_dvd (by simp) hd
    have := h.1
    simp at *
    omega
  | n + 1, hd => by
    rw [Nat.pow_succ] at hd
    rcases h.dvd_mul hd with h1 | h1
    · exact h.dvd_pow n h1
    · exact h1
theorem Pr.not_dvd_lt {p a : Nat} (_h : Pr p) (h0 : 0 < a) (h1 : a < p) : ¬ p ∣ a := fun hd => by
  have := Nat.le_of_dvd h0 hd
  omega
theorem Pr.eq_of_dvd {p q : Nat} (hp : Pr p) (hq : Pr q) (h : p ∣ q) : p = q := by
  rcases hq.2 p h with h1 | h1
  · have := hp.1; omega
  · exact h1

/- least divisor -/
theorem exists_min_dvd (n : Nat) (h : 2 ≤ n) : ∃ m, 2 ≤ m ∧ m ∣ n ∧ ∀ d, 2 ≤ d → d ∣ n → m ≤ d := by
  have key : ∀ k, (∃ m, 2 ≤ m ∧ m ∣ n ∧ m ≤ k) → ∃ m, 2 ≤ m ∧ m ∣ n ∧ ∀ d, 2 ≤ d → d ∣ n → m ≤ d := by
    intro k
    induction k with
    | zero => rintro ⟨m, h1, _, h2⟩; omega
    | succ k ih =>
      rintro ⟨m, h1, h2, h3⟩
      by_cases hs : ∃ m, 2 ≤ m ∧ m ∣ n ∧ m ≤ k
      · exact ih hs
      · refine ⟨m, h1, h2, fun d hd1 hd2 => ?_⟩
        by_cases hlt : d ≤ k
        · exact absurd ⟨d, hd1, hd2, hlt⟩ hs
        · omega
  exact key n ⟨n, h, Nat.dvd_refl n, Nat.le_refl n⟩
noncomputable def mf (n : Nat) : Nat := if h : 2 ≤ n then Classical.choose (exists_min_dvd n h) else n
theorem mf_spec {n : Nat} (h : 2 ≤ n) : 2 ≤ mf n ∧ mf n ∣ n ∧ ∀ d, 2 ≤ d → d ∣ n → mf n ≤ d := by
  unfold mf
  rw [dif_pos h]
  exact Classical.choose_spec (exists_min_dvd n h)
theorem mf_prime {n : Nat} (h : 2 ≤ n) : Pr (mf n) := by
  obtain ⟨h1, h2, h3⟩ := mf_spec h
  refine ⟨h1, fun d hd => ?_⟩
  by_cases hd2 : 2 ≤ d
  · have := h3 d hd2 (Nat.dvd_trans hd h2)
    have := Nat.le_of_dvd (by omega) hd
    omega
  · have : 0 < d := Nat.pos_of_dvd_of_pos hd (by omega)
    omega
theorem exists_prime_dvd {n : Nat} (h : 2 ≤ n) : ∃ q, Pr q ∧ q ∣ n := ⟨mf n, mf_prime h, (mf_spec h).2.1⟩
theorem mf_div_lt {n : Nat} (h : 2 ≤ n) : n / mf n < n := Nat.div_lt_self (by omega) (mf_spec h).1
theorem mf_eq {n d : Nat} (h : 2 ≤ n) (hd : 2 ≤ d) (hdn : d ∣ n) (hno : ∀ e, 2 ≤ e → e < d → ¬ e ∣ n) : mf n = d := by
  obtain ⟨h1, h2, h3⟩ := mf_spec h
  have := h3 d hd hdn
  by_cases hlt : mf n < d
  · exact absurd h2 (hno _ h1 hlt)
  · omega

/- the list of prime factors, in order -/
noncomputable def pfl (n : Nat) : List Nat := if h : 2 ≤ n then mf n :: pfl (n / mf n) else []
termination_by n
decreasing_by exact mf_div_lt h
theorem pfl_lt {n : Nat} (h : n < 2) : pfl n = [] := by rw [pfl, dif_neg (by omega)]
theorem pfl_ge {n : Nat} (h : 2 ≤ n) : pfl n = mf n :: pfl (n / mf n) := by rw [pfl, dif_pos h]
theorem pfl_prime : ∀ (n : Nat), ∀ q ∈ pfl n, Pr q := by
  intro n
  induction n using Nat.strongRecOn with
  | _ n ih =>
    intro q hq
    by_cases h : 2 ≤ n
    · rw [pfl_ge h] at hq
      rcases List.mem_cons.1 hq with rfl | hq
      · exact mf_prime h
      · exact ih _ (mf_div_lt h) q hq
    · rw [pfl_lt (by omega)] at hq
      cases hq
def prod (l : List Nat) : Nat := l.foldr (· * ·) 1
theorem prod_cons (a : Nat) (l : List Nat) : prod (a :: l) = a * prod l := rfl
theorem prod_perm {l m : List Nat} (h : l.Perm m) : prod l = prod m := by
  induction h with
  | nil => rfl
  | cons a _ ih => rw [prod_cons, prod_cons, ih]
  | swap a b l => rw [prod_cons, prod_cons, prod_cons, prod_cons, ← Nat.mul_assoc, ← Nat.mul_assoc, Nat.mul_comm a b]
  | trans _ _ h1 h2 => exact h1.trans h2
theorem pfl_prod : ∀ (n : Nat), 0 < n → prod (pfl n) = n := by
  intro n
  induction n using Nat.strongRecOn with
  | _ n ih =>
    intro h0
    by_cases h : 2 ≤ n
    · obtain ⟨h1, h2, h3⟩ := mf_spec h
      rw [pfl_ge h, prod_cons, ih _ (mf_div_lt h) (Nat.div_pos (Nat.le_of_dvd h0 h2) (by omega)), Nat.mul_div_cancel' h2]
    · rw [pfl_lt (by omega)]
      have : n = 1 := by omega
      rw [this]; rfl
theorem pfl_dvd {n q : Nat} (h0 : 0 < n) (h : q ∈ pfl n) : q ∣ n := by
  have hp := pfl_prod n h0
  rw [← hp]
  clear hp
  generalize pfl n = l at h
  induction l with
  | nil => cases h
  | cons a l ih =>
    rw [prod_cons]
    rcases List.mem_cons.1 h with rfl | h
    · exact Nat.dvd_mul_right _ _
    · exact Nat.dvd_trans (ih h) (Nat.dvd_mul_left _ _)
theorem prime_dvd_prod {q : Nat} (hq : Pr q) : ∀ (l : List Nat), (∀ x ∈ l, Pr x) → q ∣ prod l → q ∈ l
  | [], _, hd => by
    have := Nat.le_of_dvd (by simp [prod]) hd
    have := hq.1
    simp [prod] at *
    omega
  | a :: l, hl, hd => by
    rw [prod_cons] at hd
    rcases hq.dvd_mul hd with h1 | h1
    · rw [hq.eq_of_dvd (hl a (by simp)) h1]; simp
    · exact List.mem_cons_of_mem _ (prime_dvd_prod hq l (fun x hx => hl x (List.mem_cons_of_mem _ hx)) h1)
theorem mem_pfl {n q : Nat} (h0 : 0 < n) (hq : Pr q) (hd : q ∣ n) : q ∈ pfl n :=
  prime_dvd_prod hq (pfl n) (pfl_prime n) (by rw [pfl_prod n h0]; exact hd)
theorem prod_pos {l : List Nat} (hl : ∀ x ∈ l, Pr x) : 0 < prod l := by
  induction l with
  | nil => simp [prod]
  | cons a l ih =>
    rw [prod_cons]
    have := (hl a (by simp)).1
    exact Nat.mul_pos (by omega) (ih (fun x hx => hl x (List.mem_cons_of_mem _ hx)))
/- unique factorization -/
theorem pfl_of_prime {p : Nat} (h : Pr p) : pfl p = [p] := by
  have h2 := h.1
  have hm : mf p = p := by
    rcases h.2 _ (mf_spec h2).2.1 with h1 | h1
    · have := (mf_spec h2).1; omega
    · exact h1
  rw [pfl_ge h2, hm, Nat.div_self (by omega), pfl_lt (by omega)]
theorem pfl_len_one {p : Nat} (h0 : 0 < p) : (pfl p).length = 1 ↔ Pr p := by
  constructor
  · intro h
    match hl : pfl p, h with
    | [q], _ =>
      have h1 := pfl_prod p h0
      rw [hl] at h1
      simp [prod] at h1
      have := pfl_prime p q (by rw [hl]; simp)
      rwa [h1] at this
  · intro h
    rw [pfl_of_prime h]; rfl
theorem pfl_length_le (n : Nat) (h0 : 0 < n) : (pfl n).length ≤ n := by
  have : ∀ l : List Nat, (∀ x ∈ l, Pr x) → l.length < 1 + prod l := by
    intro l
    induction l with
    | nil => intro _; simp [prod]
    | cons a l ih =>
      intro hl
      have h1 := ih (fun x hx => hl x (List.mem_cons_of_mem _ hx))
      have h2 := (hl a (by simp)).1
      have h3 := prod_pos (fun x hx => hl x (List.mem_cons_of_mem _ hx))
      rw [prod_cons, List.length_cons]
      have : 2 * prod l ≤ a * prod l := Nat.mul_le_mul_right _ h2
      omega
  have := this (pfl n) (pfl_prime n)
  rw [pfl_prod n h0] at this
  omega

/- trial division: what remains when no divisor lies below d -/
theorem mf_self {n d : Nat} (h : 2 ≤ n) (hno : ∀ e, 2 ≤ e → e < d → ¬ e ∣ n) (hd : n < d * d) : mf n = n := by
  obtain ⟨h1, ⟨q, hq⟩, h3⟩ := mf_spec h
  have hge : d ≤ mf n := by
    by_cases hlt : mf n < d
    · exact absurd ⟨q, hq⟩ (hno _ h1 hlt)
    · omega
  by_cases hq1 : q < 2
  · have : q = 0 ∨ q = 1 := by omega
    rcases this with rfl | rfl
    · omega
    · omega
  · have hqd : q ∣ n := ⟨mf n, by rw [Nat.mul_comm]; exact hq⟩
    have := h3 q (by omega) hqd
    have : d * d ≤ mf n * q := Nat.mul_le_mul hge (by omega)
    omega
theorem pfl_self {n d : Nat} (h : 2 ≤ n) (hno : ∀ e, 2 ≤ e → e < d → ¬ e ∣ n) (hd : n < d * d) : pfl n = [n] := by
  rw [pfl_ge h, mf_self h hno hd, Nat.div_self (by omega), pfl_lt (by omega)]
theorem pfl_step {n d : Nat} (hn : 1 ≤ n) (hd : 2 ≤ d) (hdn : d ∣ n) (hno : ∀ e, 2 ≤ e → e < d → ¬ e ∣ n) : pfl n = d :: pfl (n / d) := by
  have h2 : 2 ≤ n := Nat.le_trans hd (Nat.le_of_dvd hn hdn)
  rw [pfl_ge h2, mf_eq h2 hd hdn hno]
theorem no_div_div {n d : Nat} (hdn : d ∣ n) (hno : ∀ e, 2 ≤ e → e < d → ¬ e ∣ n) : ∀ e, 2 ≤ e → e < d → ¬ e ∣ n / d :=
  fun e h1 h2 h3 => hno e h1 h2 (Nat.dvd_trans h3 (Nat.div_dvd_of_dvd hdn))

/- powers modulo p -/
theorem pow_mod_mul (p a m n : Nat) : a ^ m % p * (a ^ n % p) % p = a ^ (m + n) % p := by
  rw [← Nat.mul_mod, Nat.pow_add]
theorem pow_mod_pow (p a m n : Nat) : (a ^ m % p) ^ n % p = a ^ (m * n) % p := by
  rw [← Nat.pow_mod, Nat.pow_mul]
theorem pow_one_mul {p a m : Nat} (hp : 2 ≤ p) (h : a ^ m % p = 1) (n : Nat) : a ^ (m * n) % p = 1 := by
  rw [← pow_mod_pow, h, Nat.one_pow, Nat.mod_eq_of_lt (by omega)]

/- Fermat: the multiples of a run through all remainders -/
theorem Pr.inj {p a : Nat} (h : Pr p) (ha : ¬ p ∣ a) {i j : Nat} (hi : i < p) (hj : j < p) (he : a * i % p = a * j % p) : i = j := by
  have key : ∀ i j, i ≤ j → j < p → a * i % p = a * j % p → i = j := by
    intro i j hij hj he
    have h1 : p ∣ a * j - a * i := Nat.dvd_of_mod_eq_zero (Nat.sub_mod_eq_zero_of_mod_eq he.symm)
    rw [← Nat.mul_sub] at h1
    rcases h.dvd_mul h1 with h2 | h2
    · exact absurd h2 ha
    · by_cases h3 : j - i = 0
      · omega
      · have := Nat.le_of_dvd (by omega) h2
        omega
  rcases Nat.le_total i j with h1 | h1
  · exact key i j h1 hj he
  · exact (key j i h1 hi he.symm).symm
theorem nodup_perm : ∀ (l m : List Nat), l.Nodup → (∀ x ∈ l, x ∈ m) → m.length ≤ l.length → l.Perm m
  | [], m, _, _, h => by
    have : m = [] := List.eq_nil_of_length_eq_zero (by simpa using h)
    rw [this]
  | a :: l, m, hn, hs, h => by
    have ha : a ∈ m := hs a (by simp)
    rw [List.nodup_cons] at hn
    have h1 := nodup_perm l (m.erase a) hn.2 (fun x hx => by
      have hxm := hs x (List.mem_cons_of_mem _ hx)
      have hne : x ≠ a := fun e => hn.1 (e ▸ hx)
      exact (List.mem_erase_of_ne hne).2 hxm) (by rw [List.length_erase_of_mem ha]; simp at h; omega)
    exact (h1.cons a).trans (List.perm_cons_erase ha).symm
def upto (p : Nat) : List Nat := (List.range (p - 1)).map (· + 1)
theorem mem_upto {p x : Nat} : x ∈ upto p ↔ 1 ≤ x ∧ x < p := by
  unfold upto
  rw [List.mem_map]
  constructor
  · rintro ⟨i, hi, rfl⟩
    rw [List.mem_range] at hi
    omega
  · rintro ⟨h1, h2⟩
    exact ⟨x - 1, List.mem_range.2 (by omega), by omega⟩
theorem nodup_map_of_inj {f : Nat → Nat} : ∀ (l : List Nat), l.Nodup → (∀ x ∈ l, ∀ y ∈ l, f x = f y → x = y) → (l.map f).Nodup
  | [], _, _ => by simp
  | a :: l, hn, hf => by
    rw [List.nodup_cons] at hn
    rw [List.map_cons, List.nodup_cons]
    refine ⟨fun h => ?_, nodup_map_of_inj l hn.2 (fun x hx y hy => hf x (List.mem_cons_of_mem _ hx) y (List.mem_cons_of_mem _ hy))⟩
    obtain ⟨y, hy, he⟩ := List.mem_map.1 h
    have := hf y (List.mem_cons_of_mem _ hy) a (by simp) he
    exact hn.1 (this ▸ hy)
theorem upto_nodup (p : Nat) : (upto p).Nodup := nodup_map_of_inj _ List.nodup_range (fun x _ y _ h => by simpa using h)
theorem upto_length (p : Nat) : (upto p).length = p - 1 := by simp [upto]
theorem prod_map_mul (a : Nat) (l : List Nat) : prod (l.map (a * ·)) = a ^ l.length * prod l := by
  induction l with
  | nil => simp [prod]
  | cons b l ih =>
    rw [List.map_cons, prod_cons, ih, prod_cons, List.length_cons, Nat.pow_succ]
    simp only [Nat.mul_comm, Nat.mul_left_comm, Nat.mul_assoc]
theorem prod_map_mod (p : Nat) (l : List Nat) : prod (l.map (· % p)) % p = prod l % p := by
  induction l with
  | nil => rfl
  | cons b l ih => rw [List.map_cons, prod_cons, prod_cons, Nat.mul_mod, Nat.mod_mod, ih, ← Nat.mul_mod]
theorem not_dvd_prod {p : Nat} (h : Pr p) : ∀ (l : List Nat), (∀ x ∈ l, ¬ p ∣ x) → ¬ p ∣ prod l
  | [], _, hd => by
    have := Nat.le_of_dvd (by simp [prod]) hd
    have := h.1
    simp [prod] at *
    omega
  | a :: l, hl, hd => by
    rw [prod_cons] at hd
    rcases h.dvd_mul hd with h1 | h1
    · exact hl a (by simp) h1
    · exact not_dvd_prod h l (fun x hx => hl x (List.mem_cons_of_mem _ hx)) h1
theorem fermat {p a : Nat} (h : Pr p) (ha : ¬ p ∣ a) : a ^ (p - 1) % p = 1 := by
  have h2 := h.1
  have hperm : ((upto p).map (fun i => a * i % p)).Perm (upto p) := by
    refine nodup_perm _ _ (nodup_map_of_inj _ (upto_nodup p) ?_) ?_ (by simp)
    · intro x hx y hy he
      exact h.inj ha (mem_upto.1 hx).2 (mem_upto.1 hy).2 he
    · intro x hx
      obtain ⟨i, hi, rfl⟩ := List.mem_map.1 hx
      rw [mem_upto] at hi ⊢
      refine ⟨?_, Nat.mod_lt _ (by omega)⟩
      rcases Nat.eq_zero_or_pos (a * i % p) with h0 | h0
      · rcases h.dvd_mul (Nat.dvd_of_mod_eq_zero h0) with h3 | h3
        · exact absurd h3 ha
        · exact absurd h3 (h.not_dvd_lt (by omega) hi.2)
      · exact h0
  have hprod := prod_perm hperm
  have h1 : prod ((upto p).map (fun i => a * i % p)) % p = a ^ (p - 1) * prod (upto p) % p := by
    have e : (upto p).map (fun i => a * i % p) = ((upto p).map (a * ·)).map (· % p) := by rw [List.map_map]; rfl
    rw [e, prod_map_mod, prod_map_mul, upto_length]
  rw [hprod] at h1
  have hnd : ¬ p ∣ prod (upto p) := not_dvd_prod h _ (fun x hx => by rw [mem_upto] at hx; exact h.not_dvd_lt (by omega) hx.2)
  have h3 : prod (upto p) * 1 % p = prod (upto p) * (a ^ (p - 1) % p) % p := by
    rw [Nat.mul_one, Nat.mul_mod (prod (upto p)), Nat.mod_mod, ← Nat.mul_mod, Nat.mul_comm (prod (upto p))]
    exact h1
  exact (h.inj hnd (by omega) (Nat.mod_lt _ (by omega)) h3).symm
theorem inv_unique {p a b c : Nat} (h : Pr p) (ha : ¬ p ∣ a) (hb : b < p) (hc : c < p) (h1 : a * b % p = 1) (h2 : a * c % p = 1) : b = c :=
  h.inj ha hb hc (h1.trans h2.symm)
theorem fermat_inv {p a : Nat} (h : Pr p) (ha : ¬ p ∣ a) : a * (a ^ (p - 2) % p) % p = 1 := by
  have h2 := h.1
  have e : p - 1 = (p - 2) + 1 := by omega
  have := fermat h ha
  rw [e, Nat.pow_succ] at this
  rw [Nat.mul_mod, Nat.mod_mod, ← Nat.mul_mod, Nat.mul_comm]
  exact this

/- exponents that give 1 -/
theorem pow_gcd {p c : Nat} (hp : 2 ≤ p) (m n : Nat) : c ^ m % p = 1 → c ^ n % p = 1 → c ^ (Nat.gcd m n) % p = 1 := by
  induction m, n using Nat.gcd.induction with
  | H0 n => intro _ h; rwa [Nat.gcd_zero_left]
  | H1 m n hm ih =>
    intro h1 h2
    rw [Nat.gcd_rec]
    refine ih ?_ h1
    have e : n = m * (n / m) + n % m := (Nat.div_add_mod n m).symm
    rw [e, ← pow_mod_mul, pow_one_mul hp h1, Nat.one_mul, Nat.mod_mod] at h2
    exact h2
theorem pow_coprime {p c m n : Nat} (hp : 2 ≤ p) (h1 : c ^ m % p = 1) (h2 : c ^ n % p = 1) (h : Nat.Coprime m n) : c % p = 1 := by
  have := pow_gcd hp m n h1 h2
  rw [h, Nat.pow_one] at this
  exact this

/- polynomial functions have no more roots than their degree -/
def P : Nat → Int → (Int → Int) → Prop
  | 0, a, f => ∀ x, f x = a
  | n + 1, a, f => ∀ r, ∃ g, P n a g ∧ ∀ x, f x - f r = (x - r) * g x
theorem P.smul (c : Int) : ∀ {n a f}, P n a f → P n (c * a) (fun x => c * f x)
  | 0, _, _, h => fun x => by simp only [h x]
  | n + 1, a, f, h => fun r => by
    obtain ⟨g, hg, he⟩ := h r
    refine ⟨_, hg.smul c, fun x => ?_⟩
    have := he x
    simp only
    rw [← Int.mul_sub, this, Int.mul_left_comm]
theorem P.add_lower : ∀ {n a b f g}, P (n + 1) a f → P n b g → P (n + 1) a (fun x => f x + g x)
  | 0, a, b, f, g, hf, hg => fun r => by
    obtain ⟨q, hq, he⟩ := hf r
    refine ⟨q, hq, fun x => ?_⟩
    have h1 := he x
    have h2 := hg x
    have h3 := hg r
    simp only
    omega
  | n + 1, a, b, f, g, hf, hg => fun r => by
    obtain ⟨q, hq, he⟩ := hf r
    obtain ⟨q', hq', he'⟩ := hg r
    refine ⟨_, hq.add_lower hq', fun x => ?_⟩
    have h1 := he x
    have h2 := he' x
    simp only
    rw [Int.mul_add, ← h1, ← h2]
    omega
theorem P.horner (c : Int) : ∀ {n a g}, P n a g → P (n + 1) a (fun x => c + x * g x)
  | 0, a, g, h => fun r => ⟨fun _ => a, fun _ => rfl, fun x => by
      have h1 := h x
      have h2 := h r
      simp only [h1, h2, Int.sub_mul]
      omega⟩
  | n + 1, a, g, h => fun r => by
    obtain ⟨q, hq, he⟩ := h r
    refine ⟨_, P.add_lower h (hq.smul r), fun x => ?_⟩
    have h1 := he x
    simp only
    have e : (x - r) * (g x + r * q x) = (x - r) * g x + r * ((x - r) * q x) := by
      rw [Int.mul_add, Int.mul_left_comm]
    rw [e, ← h1, Int.sub_mul, Int.mul_sub]
    omega
theorem P.const_add (c : Int) {n a f} (h : P (n + 1) a f) : P (n + 1) a (fun x => f x + c) := fun r => by
  obtain ⟨q, hq, he⟩ := h r
  refine ⟨q, hq, fun x => ?_⟩
  have := he x
  simp only
  omega
theorem P.pow : ∀ n, P n 1 (fun x => x ^ n)
  | 0 => fun x => by simp
  | n + 1 => by
    have h := (P.pow n).horner 0
    have e : (fun x : Int => x ^ (n + 1)) = (fun x => 0 + x * x ^ n) := by
      funext x
      rw [Int.pow_succ, Int.mul_comm]
      omega
    rw [e]
    exact h
theorem int_dvd_mul {p : Nat} (h : Pr p) {a b : Int} (hd : (p : Int) ∣ a * b) : (p : Int) ∣ a ∨ (p : Int) ∣ b := by
  have h1 : p ∣ a.natAbs * b.natAbs := by
    rw [← Int.natAbs_mul]
    exact Int.ofNat_dvd_left.1 hd
  rcases h.dvd_mul h1 with h2 | h2
  · exact .inl (Int.ofNat_dvd_left.2 h2)
  · exact .inr (Int.ofNat_dvd_left.2 h2)
theorem P.roots {p : Nat} (hp : Pr p) : ∀ {n a f}, P n a f → ¬ (p : Int) ∣ a → ∀ l : List Nat, l.Nodup → (∀ x ∈ l, x < p ∧ (p : Int) ∣ f x) → l.length ≤ n
  | 0, a, f, h, ha, l, _, hl => by
    cases l with
    | nil => simp
    | cons x l =>
      have := (hl x (by simp)).2
      rw [h x] at this
      exact absurd this ha
  | n + 1, a, f, h, ha, l, hn, hl => by
    cases l with
    | nil => simp
    | cons r l =>
      obtain ⟨g, hg, he⟩ := h r
      rw [List.nodup_cons] at hn
      have := P.roots hp hg ha l hn.2 (fun x hx => by
        have hx1 := hl x (List.mem_cons_of_mem _ hx)
        have hr1 := hl r (by simp)
        refine ⟨hx1.1, ?_⟩
        have hd : (p : Int) ∣ ((x : Int) - r) * g x := by
          rw [← he x]
          exact Int.dvd_sub hx1.2 hr1.2
        rcases int_dvd_mul hp hd with h1 | h1
        · exfalso
          have hne : x ≠ r := fun e => hn.1 (e ▸ hx)
          have h2 := Int.ofNat_dvd_left.1 h1
          have h3 := Nat.le_of_dvd (by omega) h2
          omega
        · exact h1)
      simp only [List.length_cons]
      omega
theorem exists_not_one {p m : Nat} (hp : Pr p) (h1 : 1 ≤ m) (h2 : m < p - 1) : ∃ a, 1 ≤ a ∧ a < p ∧ a ^ m % p ≠ 1 := by
  by_cases hall : ∃ a, 1 ≤ a ∧ a < p ∧ a ^ m % p ≠ 1
  · exact hall
  · exfalso
    obtain ⟨k, rfl⟩ : ∃ k, m = k + 1 := ⟨m - 1, by omega⟩
    have hP := (P.pow (k + 1)).const_add (-1)
    have h3 := hp.1
    have := P.roots hp hP (fun hd => by
      have h4 := Int.ofNat_dvd_left.1 hd
      have := Nat.le_of_dvd (by decide) h4
      simp at this
      omega) (upto p) (upto_nodup p) (fun x hx => by
      rw [mem_upto] at hx
      refine ⟨hx.2, ?_⟩
      have h5 : x ^ (k + 1) % p = 1 := by
        by_cases he : x ^ (k + 1) % p = 1
        · exact he
        · exact absurd ⟨x, hx.1, hx.2, he⟩ hall
      have e : ((x : Int) ^ (k + 1)) = ((x ^ (k + 1) : Nat) : Int) := by simp
      have h6 : ((x ^ (k + 1) : Nat) : Int) % (p : Int) = 1 := by
        rw [← Int.natCast_emod, h5]; rfl
      have h7 := Int.emod_add_mul_ediv ((x ^ (k + 1) : Nat) : Int) (p : Int)
      rw [h6] at h7
      rw [e]
      exact ⟨((x ^ (k + 1) : Nat) : Int) / (p : Int), by omega⟩)
    rw [upto_length] at this
    omega

/- a primitive root -/
theorem prim_step {p : Nat} (hp : Pr p) {q : Nat} (hq : Pr q) (hqn : q ∣ p - 1) (Q : List Nat) (hQ : ∀ x ∈ Q, Pr x ∧ x ∣ p - 1) (g : Nat) (hg : ¬ p ∣ g)
    (h : ∀ x ∈ Q, g ^ ((p - 1) / x) % p ≠ 1) : ∃ g', ¬ p ∣ g' ∧ ∀ x ∈ q :: Q, g' ^ ((p - 1) / x) % p ≠ 1 := by
  have h2 := hp.1
  by_cases hmem : q ∈ Q
  · refine ⟨g, hg, fun x hx => ?_⟩
    rcases List.mem_cons.1 hx with e | hx
    · rw [e]; exact h _ hmem
    · exact h _ hx
  · have hn : 0 < p - 1 := by omega
    -- the whole power of q in p - 1
    obtain ⟨e, m, hm, hqm, he⟩ : ∃ e m, p - 1 = q ^ (e + 1) * m ∧ ¬ q ∣ m ∧ 0 < m := by
      have key : ∀ n, 0 < n → q ∣ n → ∃ e m, n = q ^ (e + 1) * m ∧ ¬ q ∣ m ∧ 0 < m := by
        intro n
        induction n using Nat.strongRecOn with
        | _ n ih =>
          intro h0 hd
          obtain ⟨k, rfl⟩ := hd
          have hk : 0 < k := Nat.pos_of_mul_pos_left h0
          by_cases hqk : q ∣ k
          · obtain ⟨e, m, e1, e2, e3⟩ := ih k (by have := hq.1; have : 2 * k ≤ q * k := Nat.mul_le_mul_right _ hq.1; omega) hk hqk
            exact ⟨e + 1, m, by rw [e1, Nat.pow_succ q (e + 1), Nat.mul_comm (q ^ (e + 1)) q, Nat.mul_assoc], e2, e3⟩
          · exact ⟨0, k, by simp, hqk, hk⟩
      exact key _ hn hqn
    have hq2 := hq.1
    have hpw : 0 < q ^ e := Nat.pow_pos (by omega)
    have hdiv : (p - 1) / q = q ^ e * m := by
      rw [hm, Nat.pow_succ, Nat.mul_right_comm, Nat.mul_div_cancel _ (by omega)]
    obtain ⟨a, ha1, ha2, ha3⟩ := exists_not_one hp (m := (p - 1) / q) (Nat.div_pos (Nat.le_of_dvd hn hqn) (by omega)) (Nat.div_lt_self hn hq2)
    have hna : ¬ p ∣ a := hp.not_dvd_lt (by omega) ha2
    refine ⟨g ^ (q ^ (e + 1)) * a ^ m, fun hd => ?_, fun x hx => ?_⟩
    · rcases hp.dvd_mul hd with h3 | h3
      · exact hg (hp.dvd_pow _ h3)
      · exact hna (hp.dvd_pow _ h3)
    · rw [Nat.mul_pow, ← Nat.pow_mul, ← Nat.pow_mul]
      rcases List.mem_cons.1 hx with rfl | hx
      · intro hc
        have e1 : g ^ (x ^ (e + 1) * ((p - 1) / x)) % p = 1 := by
          have e2 : x ^ (e + 1) * ((p - 1) / x) = (p - 1) * x ^ e := by
            rw [hdiv, hm, Nat.pow_succ]
            simp only [Nat.mul_comm, Nat.mul_left_comm]
          rw [e2]
          exact pow_one_mul h2 (fermat hp hg) _
        rw [Nat.mul_mod, e1, Nat.one_mul, Nat.mod_mod, Nat.mul_comm m, Nat.pow_mul] at hc
        have e3 : (a ^ ((p - 1) / x)) ^ x % p = 1 := by
          rw [← Nat.pow_mul, Nat.div_mul_cancel hqn]
          exact fermat hp hna
        exact ha3 (pow_coprime h2 hc e3 (Nat.Coprime.symm (hq.coprime hqm)))
      · obtain ⟨hx1, hx2⟩ := hQ x hx
        have hne : q ≠ x := fun e => hmem (e ▸ hx)
        have hxm : x ∣ m := by
          rw [hm] at hx2
          rcases hx1.dvd_mul hx2 with h3 | h3
          · exact absurd (hx1.eq_of_dvd hq (hx1.dvd_pow _ h3)).symm hne
          · exact h3
        have hdx : (p - 1) / x = q ^ (e + 1) * (m / x) := by rw [hm, Nat.mul_div_assoc _ hxm]
        intro hc
        have e1 : a ^ (m * ((p - 1) / x)) % p = 1 := by
          have e2 : m * ((p - 1) / x) = (p - 1) * (m / x) := by
            rw [hdx, hm]
            simp only [Nat.mul_comm, Nat.mul_left_comm]
          rw [e2]
          exact pow_one_mul h2 (fermat hp hna) _
        rw [Nat.mul_mod, e1, Nat.mul_one, Nat.mod_mod, Nat.mul_comm (q ^ (e + 1)), Nat.pow_mul] at hc
        have e3 : (g ^ ((p - 1) / x)) ^ x % p = 1 := by
          rw [← Nat.pow_mul, Nat.div_mul_cancel hx2]
          exact fermat hp hg
        have hcop : Nat.Coprime (q ^ (e + 1)) x := Nat.Coprime.symm (hx1.coprime (fun h3 => hne (hx1.eq_of_dvd hq (hx1.dvd_pow _ h3)).symm))
        exact h x hx (pow_coprime h2 hc e3 hcop)
theorem prim_exists {p : Nat} (hp : Pr p) : ∃ g, 1 ≤ g ∧ g < p ∧ ∀ q, Pr q → q ∣ p - 1 → g ^ ((p - 1) / q) % p ≠ 1 := by
  have h2 := hp.1
  have key : ∀ Q : List Nat, (∀ x ∈ Q, Pr x ∧ x ∣ p - 1) → ∃ g, ¬ p ∣ g ∧ ∀ x ∈ Q, g ^ ((p - 1) / x) % p ≠ 1 := by
    intro Q
    induction Q with
    | nil => exact fun _ => ⟨1, fun h => by have := Nat.le_of_dvd (by decide) h; omega, fun x hx => by cases hx⟩
    | cons q Q ih =>
      intro hQ
      obtain ⟨g, hg, hh⟩ := ih (fun x hx => hQ x (List.mem_cons_of_mem _ hx))
      exact prim_step hp (hQ q (by simp)).1 (hQ q (by simp)).2 Q (fun x hx => hQ x (List.mem_cons_of_mem _ hx)) g hg hh
  by_cases h1 : p = 2
  · refine ⟨1, by omega, by omega, fun q hq hd => ?_⟩
    have := Nat.le_of_dvd (by omega) hd
    have := hq.1
    omega
  · obtain ⟨g, hg, hh⟩ := key (pfl (p - 1)) (fun x hx => ⟨pfl_prime _ x hx, pfl_dvd (by omega) hx⟩)
    refine ⟨g % p, ?_, Nat.mod_lt _ (by omega), fun q hq hd => ?_⟩
    · rcases Nat.eq_zero_or_pos (g % p) with h3 | h3
      · exact absurd (Nat.dvd_of_mod_eq_zero h3) hg
      · exact h3
    · rw [← Nat.pow_mod]
      exact hh q (mem_pfl (by omega) hq hd)

/- orders -/
def ordl (p a : Nat) : Nat → List Nat → Nat
  | n, [] => n
  | n, q :: l => if a ^ (n / q) % p = 1 then ordl p a (n / q) l else ordl p a n l
/-- r is the order of a. -/
def Ord (p a r : Nat) : Prop := 1 ≤ r ∧ a ^ r % p = 1 ∧ ∀ q, Pr q → q ∣ r → a ^ (r / q) % p ≠ 1
theorem Ord.dvd {p a r m : Nat} (hp : 2 ≤ p) (h : Ord p a r) (hm : a ^ m % p = 1) : r ∣ m := by
  obtain ⟨h1, h2, h3⟩ := h
  have hg := pow_gcd hp r m h2 hm
  have hgd := Nat.gcd_dvd_left r m
  have hgp : 0 < Nat.gcd r m := Nat.gcd_pos_of_pos_left _ h1
  by_cases he : Nat.gcd r m = r
  · exact he ▸ Nat.gcd_dvd_right r m
  · exfalso
    obtain ⟨c, hc⟩ := hgd
    have hc2 : 2 ≤ c := by
      by_cases hlt : c < 2
      · have : c = 0 ∨ c = 1 := by omega
        rcases this with rfl | rfl
        · omega
        · rw [Nat.mul_one] at hc; exact absurd hc.symm he
      · omega
    obtain ⟨q, hq, d, hd⟩ := exists_prime_dvd hc2
    have hq2 := hq.1
    generalize hG : Nat.gcd r m = G at *
    refine h3 q hq ⟨G * d, by rw [hc, hd, Nat.mul_left_comm]⟩ ?_
    have e : r / q = G * d := by rw [hc, hd, Nat.mul_left_comm, Nat.mul_div_cancel_left _ (by omega)]
    rw [e]
    exact pow_one_mul hp hg d
theorem Ord.unique {p a r s : Nat} (hp : 2 ≤ p) (h : Ord p a r) (k : Ord p a s) : r = s :=
  Nat.dvd_antisymm (h.dvd hp k.2.1) (k.dvd hp h.2.1)
theorem ordl_le (p a : Nat) : ∀ (l : List Nat) (n : Nat), ordl p a n l ≤ n
  | [], n => Nat.le_refl n
  | q :: l, n => by
    unfold ordl
    split
    · exact Nat.le_trans (ordl_le p a l _) (Nat.div_le_self _ _)
    · exact ordl_le p a l n
theorem ordl_full (p a : Nat) : ∀ (l : List Nat) (n : Nat), 1 ≤ n → (∀ x ∈ l, 2 ≤ x) → (ordl p a n l = n ↔ ∀ q ∈ l, a ^ (n / q) % p ≠ 1)
  | [], n, _, _ => by simp [ordl]
  | q :: l, n, h1, hl => by
    unfold ordl
    split
    · rename_i hc
      have h3 := ordl_le p a l (n / q)
      have h4 : n / q < n := Nat.div_lt_self h1 (hl q (by simp))
      constructor
      · intro he; omega
      · intro hh; exact absurd hc (hh q (by simp))
    · rename_i hc
      rw [ordl_full p a l n h1 (fun x hx => hl x (List.mem_cons_of_mem _ hx))]
      constructor
      · intro hh x hx
        rcases List.mem_cons.1 hx with e | hx
        · rw [e]; exact hc
        · exact hh x hx
      · exact fun hh x hx => hh x (List.mem_cons_of_mem _ hx)
theorem prim_ord {p g : Nat} (hp : Pr p) (h1 : 1 ≤ g) (h2 : g < p) (hg : ∀ q, Pr q → q ∣ p - 1 → g ^ ((p - 1) / q) % p ≠ 1) : Ord p g (p - 1) :=
  ⟨by have := hp.1; omega, fermat hp (hp.not_dvd_lt (by omega) h2), hg⟩
theorem root_ord {p g n : Nat} (hp : Pr p) (hg : Ord p g (p - 1)) (hn : 1 ≤ n) (hd : n ∣ p - 1) : Ord p (g ^ ((p - 1) / n) % p) n := by
  have hp2 := hp.1
  refine ⟨hn, ?_, fun q hq hqn => ?_⟩
  · rw [pow_mod_pow, Nat.div_mul_cancel hd]; exact hg.2.1
  · rw [pow_mod_pow]
    have e : (p - 1) / n * (n / q) = (p - 1) / q := by
      obtain ⟨c, hc⟩ := hd
      obtain ⟨d, hd2⟩ := hqn
      have hq2 := hq.1
      rw [hc, Nat.mul_div_cancel_left _ (by omega), hd2, Nat.mul_div_cancel_left _ (by omega), Nat.mul_assoc, Nat.mul_div_cancel_left _ (by omega), Nat.mul_comm]
    rw [e]
    exact hg.2.2 q hq (Nat.dvd_trans hqn hd)
end RM
set_option linter.unusedVariables false
set_option linter.unusedSimpArgs false
namespace Go.Proofs.Ytbopgopggnagpaa.RL
open Go Go.RowKit Go.Proofs.Ytbopgopggnagpaa.PAll Go.Proofs.YtbopgopggnagpaaW.PrintWords Go.Proofs.YtbopgopggnagpaaW.PrintLast RM

theorem w64 {x : Int} (h0 : -9223372036854775808 ≤ x) (h1 : x ≤ 9223372036854775807) : wrap64 x = x := by unfold wrap64; omega
theorem w64N {n : Nat} (h : n ≤ 9223372036854775807) : wrap64 (n : Int) = (n : Int) := w64 (by omega) (by omega)
theorem tdivN (a b : Nat) : Int.tdiv (a : Int) (b : Int) = ((a / b : Nat) : Int) := by rw [Int.tdiv_eq_ediv_of_nonneg (by omega)]; rfl
theorem tmodN (a b : Nat) : Int.tmod (a : Int) (b : Int) = ((a % b : Nat) : Int) := by rw [Int.tmod_eq_emod_of_nonneg (by omega)]; rfl
theorem le_div_iff {d p : Nat} (hd : 2 ≤ d) : d ≤ p / d ↔ d * d ≤ p := Nat.le_div_iff_mul_le (by omega)
theorem mulN (a b : Nat) : (a : Int) * (b : Int) = ((a * b : Nat) : Int) := by simp
theorem sq_le {d : Nat} (h : d ≤ 44722) : d * d ≤ 2000057284 := Nat.le_trans (Nat.mul_le_mul h h) (by decide)
theorem le_of_sq {d n : Nat} (h : d * d ≤ n) (hn : n ≤ 2000000000) : d ≤ 44721 := by
  by_cases hc : d ≤ 44721
  · exact hc
  · have : 44722 * 44722 ≤ d * d := Nat.mul_le_mul (by omega) (by omega)
    omega
theorem div_le_pred {n d : Nat} (hd : 2 ≤ d) (hn : 1 ≤ n) (hdn : d ∣ n) : n / d + 1 ≤ n := by
  have := Nat.div_lt_self hn hd
  omega

/-! the modulus' check -/
theorem check_loop (p : Nat) (hp : 2 ≤ p) (hp2 : p ≤ 2000000000) : ∀ (m d : Nat), p + 1 ≤ d + m → 2 ≤ d → d ≤ 44722 → (∀ e, 2 ≤ e → e < d → ¬ e ∣ p) →
    (Pr p → Ev (fun k => ring_Check.l0 k p d) 0) ∧ (¬ Pr p → Ev (fun k => ring_Check.l0 k p d) 2) := by
  intro m
  induction m with
  | zero =>
    intro d h1 h2 h3 hno
    exact absurd (Nat.dvd_refl p) (hno p hp (by omega))
  | succ m ih =>
    intro d h1 h2 h3 hno
    have e0 : ¬ ((d : Int) = 0) := by omega
    have e1 : wrap64 (Int.tdiv (p : Int) (d : Int)) = ((p / d : Nat) : Int) := by
      rw [tdivN, w64N (by have := Nat.div_le_self p d; omega)]
    have e2 := tmodN p d
    by_cases hsq : d * d ≤ p
    · have hle : (d : Int) ≤ ((p / d : Nat) : Int) := by have := (le_div_iff (p := p) h2).2 hsq; omega
      have h44 := le_of_sq hsq hp2
      by_cases hdv : d ∣ p
      · have e3 : ((p % d : Nat) : Int) = 0 := by have := Nat.mod_eq_zero_of_dvd hdv; omega
        have hnp : ¬ Pr p := fun hpr => by
          rcases hpr.2 d hdv with h | h
          · omega
          · subst h
            have : d * 2 ≤ d * d := Nat.mul_le_mul_left _ h2
            omega
        refine ⟨fun h => absurd h hnp, fun _ => Ev.step (f := fun _ => some 2) (fun k => ?_) (Ev.now 2)⟩
        simp only [ring_Check.l0]
        rw [if_neg e0, e1, if_pos hle, e2, if_pos e3]
      · have e3 : ¬ (((p % d : Nat) : Int) = 0) := by
          intro h
          exact hdv (Nat.dvd_of_mod_eq_zero (by omega))
        have e4 : wrap64 ((d : Int) + 1) = ((d + 1 : Nat) : Int) := by rw [w64 (by omega) (by omega)]; rfl
        have hr := ih (d + 1) (by omega) (by omega) (by omega) (fun e he1 he2 hed => by
          by_cases h : e = d
          · exact hdv (h ▸ hed)
          · exact hno e he1 (by omega) hed)
        have hs : ∀ k, ring_Check.l0 (k + 1) p d = ring_Check.l0 k p ((d + 1 : Nat) : Int) := fun k => by
          simp only [ring_Check.l0]
          rw [if_neg e0, e1, if_pos hle, e2, if_neg e3, e4]
        exact ⟨fun h => Ev.step hs (hr.1 h), fun h => Ev.step hs (hr.2 h)⟩
    · have hle : ¬ ((d : Int) ≤ ((p / d : Nat) : Int)) := by
        intro h
        exact hsq ((le_div_iff (p := p) h2).1 (by omega))
      have hpr : Pr p := by
        have := mf_self hp hno (by omega)
        exact this ▸ mf_prime hp
      refine ⟨fun _ => Ev.step (f := fun _ => some 0) (fun k => ?_) (Ev.now 0), fun h => absurd hpr h⟩
      simp only [ring_Check.l0]
      rw [if_neg e0, e1, if_neg hle]

/-- A number that is a modulus. -/
def Mod (a : Int) : Prop := ∃ p : Nat, a = (p : Int) ∧ p ≤ 2000000000 ∧ Pr p
theorem Mod.pos {p : Nat} (h : Mod (p : Int)) : Pr p ∧ p ≤ 2000000000 := by
  obtain ⟨q, e, h1, h2⟩ := h
  have : p = q := by omega
  subst this
  exact ⟨h2, h1⟩
theorem ring_Check_ev (a : Int) : (Mod a → Ev (fun k => ring_Check.f k a) 0) ∧ (¬ Mod a → Ev (fun k => ring_Check.f k a) 2) := by
  have j2 : ∀ a, Ev (fun k => ring_Check.j0 k a true) 2 := fun a => Ev.step (f := fun _ => some 2) (fun k => by simp [ring_Check.j0]) (Ev.now 2)
  by_cases h1 : a < 2
  · refine ⟨fun ⟨p, e, _, hp⟩ => ?_, fun _ => ?_⟩
    · have := hp.1; omega
    · exact Ev.congr (fun k => by unfold ring_Check.f; rw [if_pos h1]) (j2 a)
  · by_cases h2 : a > 2000000000
    · refine ⟨fun ⟨p, e, h3, hp⟩ => by omega, fun _ => ?_⟩
      exact Ev.congr (fun k => by unfold ring_Check.f; rw [if_neg h1, decide_eq_true h2]) (j2 a)
    · obtain ⟨p, rfl⟩ := Int.eq_ofNat_of_zero_le (show 0 ≤ a by omega)
      have hl := check_loop p (by omega) (by omega) p 2 (by omega) (by omega) (by omega) (fun e h3 h4 => by omega)
      have hj : ∀ r, Ev (fun k => ring_Check.l0 k p 2) r → Ev (fun k => ring_Check.f k p) r := fun r hr =>
        Ev.congr (fun k => by unfold ring_Check.f; rw [if_neg h1, decide_eq_false h2]) (Ev.step (f := fun k => ring_Check.l0 k p 2) (fun k => by simp [ring_Check.j0]) hr)
      exact ⟨fun h => hj 0 (hl.1 h.pos.1), fun h => hj 2 (hl.2 (fun hp => h ⟨p, rfl, by omega, hp⟩))⟩

/-! the reference's factors -/
def cl (l : List Nat) : List Int := l.map (fun x : Nat => (x : Int))
theorem cl_append (l m : List Nat) : cl (l ++ m) = cl l ++ cl m := List.map_append
theorem cl_cons (a : Nat) (l : List Nat) : cl (a :: l) = (a : Int) :: cl l := rfl
theorem cl_length (l : List Nat) : (cl l).length = l.length := List.length_map _
theorem factors_loop : ∀ (m n d : Nat) (out : List Int), 1 ≤ n → n ≤ 2000000000 → 2 ≤ d → (∀ e, 2 ≤ e → e < d → ¬ e ∣ n) → out.length + n ≤ 4000000000 →
    (d ≤ 44722 → 2 * (n + 50000 - d) + 1 ≤ m → Ev (fun k => fringeref10_Factors.l0 k n out d) (out ++ cl (pfl n), 0)) ∧
    (d ≤ 44721 → 2 * (n + 50000 - d) ≤ m → Ev (fun k => fringeref10_Factors.l1 k n out d) (out ++ cl (pfl n), 0)) := by
  intro m
  induction m with
  | zero => intro n d out h1 h2 h3 hno hl; exact ⟨fun h4 h5 => by omega, fun h4 h5 => by omega⟩
  | succ m ih =>
    intro n d out h1 h2 h3 hno hl
    constructor
    · intro h4 h5
      have hsq := sq_le h4
      have e1 : wrap64 ((d : Int) * (d : Int)) = ((d * d : Nat) : Int) := by rw [mulN, w64 (by omega) (by omega)]
      by_cases hc : d * d ≤ n
      · have h6 := le_of_sq hc h2
        refine Ev.step (f := fun k => fringeref10_Factors.l1 k n out d) (fun k => ?_) ((ih n d out h1 h2 h3 hno hl).2 h6 (by omega))
        simp only [fringeref10_Factors.l0]
        rw [e1, if_pos (by omega)]
      · by_cases hn1 : n = 1
        · subst hn1
          refine Ev.step (f := fun _ => some (out ++ cl (pfl 1), 0)) (fun k => ?_) (Ev.now _)
          simp only [fringeref10_Factors.l0]
          rw [e1, if_neg (by omega), if_neg (by omega), pfl_lt (by omega)]
          simp [cl]
        · refine Ev.step (f := fun _ => some (out ++ cl (pfl n), 0)) (fun k => ?_) (Ev.now _)
          simp only [fringeref10_Factors.l0]
          rw [e1, if_neg (by omega), if_pos (by omega), if_pos (by omega), pfl_self (by omega) hno (by omega)]
          rfl
    · intro h4 h5
      have e0 : ¬ ((d : Int) = 0) := by omega
      have e2 := tmodN n d
      by_cases hdv : d ∣ n
      · have e3 : ((n % d : Nat) : Int) = 0 := by have := Nat.mod_eq_zero_of_dvd hdv; omega
        have hlt := div_le_pred h3 h1 hdv
        have hpos : 1 ≤ n / d := Nat.div_pos (Nat.le_of_dvd h1 hdv) (by omega)
        have e4 : wrap64 (Int.tdiv (n : Int) (d : Int)) = ((n / d : Nat) : Int) := by rw [tdivN, w64N (by omega)]
        have hr := (ih (n / d) d (out ++ [(d : Int)]) hpos (by omega) h3 (no_div_div hdv hno) (by simp; omega)).2 h4 (by omega)
        have e5 : out ++ [(d : Int)] ++ cl (pfl (n / d)) = out ++ cl (pfl n) := by rw [pfl_step h1 h3 hdv hno, cl_cons]; simp
        rw [e5] at hr
        refine Ev.step (f := fun k => fringeref10_Factors.l1 k ((n / d : Nat) : Int) (out ++ [(d : Int)]) d) (fun k => ?_) hr
        simp only [fringeref10_Factors.l1]
        rw [if_neg e0, e2, if_pos e3, if_pos (by omega), e4]
      · have e3 : ¬ (((n % d : Nat) : Int) = 0) := by
          intro h
          exact hdv (Nat.dvd_of_mod_eq_zero (by omega))
        have e4 : wrap64 ((d : Int) + 1) = ((d + 1 : Nat) : Int) := by rw [w64 (by omega) (by omega)]; rfl
        have hr := (ih n (d + 1) out h1 h2 (by omega) (fun e he1 he2 hed => by
          by_cases h : e = d
          · exact hdv (h ▸ hed)
          · exact hno e he1 (by omega) hed) hl).1 (by omega) (by omega)
        refine Ev.step (f := fun k => fringeref10_Factors.l0 k n out ((d + 1 : Nat) : Int)) (fun k => ?_) hr
        simp only [fringeref10_Factors.l1]
        rw [if_neg e0, e2, if_neg e3, e4]
/-- A number whose factors are told. -/
def Num (a : Int) : Prop := ∃ n : Nat, a = (n : Int) ∧ 1 ≤ n ∧ n ≤ 2000000000
theorem refF_loop {n : Nat} (h1 : 1 ≤ n) (h2 : n ≤ 2000000000) : Ev (fun k => fringeref10_Factors.l0 k n [] 2) (cl (pfl n), 0) := by
  have := (factors_loop _ n 2 [] h1 h2 (by omega) (fun e _ _ => by omega) (by simp; omega)).1 (by omega) (Nat.le_refl _)
  simpa using this
theorem refF_ev {n : Nat} (h1 : 1 ≤ n) (h2 : n ≤ 2000000000) : Ev (fun k => fringeref10_Factors.f k n) (cl (pfl n), 0) :=
  Ev.congr (fun k => by unfold fringeref10_Factors.f; rw [if_neg (by omega), decide_eq_false (by omega)]) (Ev.step (f := fun k => fringeref10_Factors.l0 k n [] 2) (fun k => by simp [fringeref10_Factors.j0]) (refF_loop h1 h2))
theorem refF_not {a : Int} (h : ¬ Num a) : Ev (fun k => fringeref10_Factors.f k a) ([], 2) := by
  have j2 : Ev (fun k => fringeref10_Factors.j0 k a true) ([], 2) := Ev.step (f := fun _ => some ([], 2)) (fun k => by simp [fringeref10_Factors.j0]) (Ev.now _)
  by_cases h1 : a < 1
  · exact Ev.congr (fun k => by unfold fringeref10_Factors.f; rw [if_pos h1]) j2
  · have h2 : a > 2000000000 := by
      by_cases hc : a > 2000000000
      · exact hc
      · exact absurd ⟨a.toNat, by omega, by omega, by omega⟩ h
    exact Ev.congr (fun k => by unfold fringeref10_Factors.f; rw [if_neg h1, decide_eq_true h2]) j2
theorem Mod.num {a : Int} (h : Mod a) : Num a := by
  obtain ⟨p, e, h1, h2⟩ := h
  exact ⟨p, e, by have := h2.1; omega, h1⟩
theorem refCheck_ev (a : Int) : (Mod a → Ev (fun k => fringeref10_Check.f k a) 0) ∧ (¬ Mod a → Ev (fun k => fringeref10_Check.f k a) 2) := by
  by_cases h1 : a < 2
  · refine ⟨fun ⟨p, e, _, hp⟩ => by have := hp.1; omega, fun _ => ?_⟩
    exact Ev.congr (fun k => by unfold fringeref10_Check.f; rw [if_pos h1]) (Ev.now 2)
  · have hc : ∀ k, fringeref10_Check.f k a = (fringeref10_Factors.f k a).bind fun bt110 => (if bt110.2 = 0 then (if (bt110.1.length : Int) = 1 then (some 0) else (some 2)) else (some 2)) := fun k => by unfold fringeref10_Check.f; rw [if_neg h1]
    by_cases hn : Num a
    · obtain ⟨n, rfl, h2, h3⟩ := hn
      have hl := pfl_len_one (p := n) (by omega)
      refine ⟨fun h => Ev.congr hc (Ev.bind (refF_ev h2 h3) ?_), fun h => Ev.congr hc (Ev.bind (refF_ev h2 h3) ?_)⟩
      · simp only [cl_length, if_true]
        rw [if_pos (by have := hl.2 h.pos.1; omega)]
        exact Ev.now 0
      · simp only [cl_length, if_true]
        rw [if_neg (fun he => h ⟨n, rfl, h3, hl.1 (by omega)⟩)]
        exact Ev.now 2
    · refine ⟨fun h => absurd h.num hn, fun _ => Ev.congr hc (Ev.bind (refF_not hn) ?_)⟩
      simp only
      rw [if_neg (by decide)]
      exact Ev.now 2

/-! the program's factors -/
theorem take_ev : ∀ (n d : Nat) (out : List Int), 1 ≤ n → n ≤ 2000000000 → 2 ≤ d → (∀ e, 2 ≤ e → e < d → ¬ e ∣ n) → out.length + n ≤ 4000000000 →
    ∃ (n' : Nat) (out' : List Int), Ev (fun k => ring_take.l0 k d n out) ((n' : Int), out') ∧ out' ++ cl (pfl n') = out ++ cl (pfl n) ∧ 1 ≤ n' ∧ n' ≤ n ∧ n' ∣ n ∧ (∀ e, 2 ≤ e → e < d + 1 → ¬ e ∣ n') ∧ out'.length + n' ≤ 4000000000 := by
  intro n
  induction n using Nat.strongRecOn with
  | _ n ih =>
    intro d out h1 h2 h3 hno hl
    have e0 : ¬ ((d : Int) = 0) := by omega
    have e2 := tmodN n d
    by_cases hdv : d ∣ n
    · have e3 : ((n % d : Nat) : Int) = 0 := by have := Nat.mod_eq_zero_of_dvd hdv; omega
      have hlt := div_le_pred h3 h1 hdv
      have hpos : 1 ≤ n / d := Nat.div_pos (Nat.le_of_dvd h1 hdv) (by omega)
      have e4 : wrap64 (Int.tdiv (n : Int) (d : Int)) = ((n / d : Nat) : Int) := by rw [tdivN, w64N (by omega)]
      obtain ⟨n', out', hE, he, a1, a2, a3, a4, a5⟩ := ih (n / d) (by omega) d (out ++ [(d : Int)]) hpos (by omega) h3 (no_div_div hdv hno) (by simp; omega)
      refine ⟨n', out', Ev.step (f := fun k => ring_take.l0 k d ((n / d : Nat) : Int) (out ++ [(d : Int)])) (fun k => ?_) hE, ?_, a1, by omega, Nat.dvd_trans a3 (Nat.div_dvd_of_dvd hdv), a4, a5⟩
      · simp only [ring_take.l0]
        rw [if_neg e0, e2, if_pos e3, if_pos (by omega), e4]
      · rw [he, pfl_step h1 h3 hdv hno, cl_cons]; simp
    · have e3 : ¬ (((n % d : Nat) : Int) = 0) := by
        intro h
        exact hdv (Nat.dvd_of_mod_eq_zero (by omega))
      refine ⟨n, out, Ev.step (f := fun _ => some ((n : Int), out)) (fun k => ?_) (Ev.now _), rfl, h1, Nat.le_refl _, Nat.dvd_refl _, fun e he1 he2 hed => ?_, hl⟩
      · simp only [ring_take.l0]
        rw [if_neg e0, e2, if_neg e3]
      · by_cases h : e = d
        · exact hdv (h ▸ hed)
        · exact hno e he1 (by omega) hed
theorem split_loop : ∀ (m n d : Nat) (out : List Int), 1 ≤ n → n ≤ 2000000000 → 3 ≤ d → d % 2 = 1 → d ≤ 44723 → ¬ 2 ∣ n → (∀ e, 2 ≤ e → e < d → ¬ e ∣ n) → out.length + n ≤ 4000000000 → n + 50000 - d ≤ m →
    Ev (fun k => ring_split.l0 k n out d) (out ++ cl (pfl n)) := by
  intro m
  induction m with
  | zero => intro n d out h1 h2 h3 h4 h5 h6 hno hl hm; omega
  | succ m ih =>
    intro n d out h1 h2 h3 h4 h5 h6 hno hl hm
    have e0 : ¬ ((d : Int) = 0) := by omega
    have e1 : wrap64 (Int.tdiv (n : Int) (d : Int)) = ((n / d : Nat) : Int) := by
      rw [tdivN, w64N (by have := Nat.div_le_self n d; omega)]
    by_cases hsq : d * d ≤ n
    · have hle : (d : Int) ≤ ((n / d : Nat) : Int) := by have := (le_div_iff (p := n) (d := d) (by omega)).2 hsq; omega
      have h44 := le_of_sq hsq h2
      obtain ⟨n', out', hE, he, a1, a2, a3, a4, a5⟩ := take_ev n d out h1 h2 (by omega) hno hl
      have h2n : ¬ 2 ∣ n' := fun hd => h6 (Nat.dvd_trans hd a3)
      have hr := ih n' (d + 2) out' a1 (by omega) (by omega) (by omega) (by omega) h2n (fun e he1 he2 hed => by
        by_cases h : e = d + 1
        · exact h2n (Nat.dvd_trans (Nat.dvd_of_mod_eq_zero (by omega)) hed)
        · exact a4 e he1 (by omega) hed) a5 (by omega)
      rw [he] at hr
      refine Ev.step (f := fun k => (ring_take.l0 k d n out).bind fun p => ring_split.l0 k p.1 p.2 ((d + 2 : Nat) : Int)) (fun k => ?_) (Ev.bind hE hr)
      simp only [ring_split.l0]
      rw [if_neg e0, e1, if_pos hle, show wrap64 ((d : Int) + 2) = ((d + 2 : Nat) : Int) by rw [w64 (by omega) (by omega)]; rfl]
    · have hle : ¬ ((d : Int) ≤ ((n / d : Nat) : Int)) := by
        intro h
        exact hsq ((le_div_iff (p := n) (d := d) (by omega)).1 (by omega))
      by_cases hn1 : n = 1
      · subst hn1
        refine Ev.step (f := fun _ => some (out ++ cl (pfl 1))) (fun k => ?_) (Ev.now _)
        simp only [ring_split.l0]
        rw [if_neg e0, e1, if_neg hle, if_neg (by omega), pfl_lt (by omega)]
        simp [cl]
      · refine Ev.step (f := fun _ => some (out ++ cl (pfl n))) (fun k => ?_) (Ev.now _)
        simp only [ring_split.l0]
        rw [if_neg e0, e1, if_neg hle, if_pos (by omega), if_pos (by omega), pfl_self (by omega) hno (by omega)]
        rfl
theorem split_ev {n : Nat} (h1 : 1 ≤ n) (h2 : n ≤ 2000000000) : Ev (fun k => ring_split.f k n) (cl (pfl n)) := by
  obtain ⟨n', out', hE, he, a1, a2, a3, a4, a5⟩ := take_ev n 2 [] h1 h2 (by omega) (fun e _ _ => by omega) (by simp; omega)
  have hr := split_loop _ n' 3 out' a1 (by omega) (by omega) (by omega) (by omega) (a4 2 (by omega) (by omega)) (fun e he1 he2 => a4 e he1 (by omega)) a5 (Nat.le_refl _)
  rw [he] at hr
  exact Ev.congr (fun k => by unfold ring_split.f; rfl) (Ev.bind (f := fun k p => ring_split.l0 k p.1 p.2 3) hE hr)
/-! powers -/
theorem mul_lt {a b p : Nat} (ha : a < p) (hb : b < p) (hp : p ≤ 2000000000) : a * b ≤ 4000000000000000000 :=
  Nat.le_trans (Nat.mul_le_mul (show a ≤ 2000000000 by omega) (show b ≤ 2000000000 by omega)) (by decide)
theorem mulmod {a b p : Nat} (ha : a < p) (hb : b < p) (hp : p ≤ 2000000000) : Int.tmod (wrap64 ((a : Int) * (b : Int))) (p : Int) = ((a * b % p : Nat) : Int) := by
  have := mul_lt ha hb hp
  rw [mulN, w64N (by omega), tmodN]
theorem pow_even (out a n p : Nat) (h : n % 2 = 0) : out * (a * a % p) ^ (n / 2) % p = out * a ^ n % p := by
  have e : a ^ n = (a * a) ^ (n / 2) := by
    rw [← Nat.pow_two, ← Nat.pow_mul]
    congr 1
    omega
  rw [e, Nat.mul_mod, ← Nat.pow_mod, ← Nat.mul_mod]
theorem pow_odd (out a n p : Nat) (h : n % 2 = 1) : out * a % p * (a * a % p) ^ (n / 2) % p = out * a ^ n % p := by
  have e : a ^ n = a * (a * a) ^ (n / 2) := by
    rw [← Nat.pow_two, ← Nat.pow_mul, Nat.mul_comm, ← Nat.pow_succ]
    congr 1
    omega
  rw [e, ← Nat.mul_assoc, Nat.mul_mod, Nat.mod_mod, ← Nat.pow_mod, ← Nat.mul_mod]
theorem bit_one {n : Nat} (hn : n ≤ 9223372036854775807) : bits .and .i64 (n : Int) 1 = (n : Int) % 2 := by
  have := bits_mask .i64 63 (by decide) (fun x h1 h2 => by rw [IntKind.wrap_i64]; omega) 1 (by omega) (n : Int) (by omega) (by omega)
  rwa [show (2 : Int) ^ 1 - 1 = 1 from rfl, show (2 : Int) ^ 1 = 2 from rfl] at this
theorem power_loop (p : Nat) (hp : 2 ≤ p) (hp2 : p ≤ 2000000000) : ∀ (n a out : Nat), n ≤ 9223372036854775807 → a < p → out < p →
    Ev (fun k => ring_power.l0 k p a n out) ((out * a ^ n % p : Nat) : Int) ∧ Ev (fun k => fringeref10_Power.l0 k p a n out) ((out * a ^ n % p : Nat) : Int) := by
  intro n
  induction n using Nat.strongRecOn with
  | _ n ih =>
    intro a out hn ha ho
    have ep : ¬ ((p : Int) = 0) := by omega
    by_cases h0 : n = 0
    · subst h0
      rw [Nat.pow_zero, Nat.mul_one, Nat.mod_eq_of_lt ho]
      constructor
      · refine Ev.step (f := fun _ => some (out : Int)) (fun k => ?_) (Ev.now _)
        simp only [ring_power.l0]
        rw [if_neg (by omega)]
      · refine Ev.step (f := fun _ => some (out : Int)) (fun k => ?_) (Ev.now _)
        simp only [fringeref10_Power.l0]
        rw [if_neg (by omega)]
    · have e1 := mulmod ha ha hp2
      have e2 := mulmod ho ha hp2
      have ediv : wrap64 (Int.tdiv (n : Int) 2) = ((n / 2 : Nat) : Int) := by
        rw [show (2 : Int) = ((2 : Nat) : Int) from rfl, tdivN, w64N (by omega)]
      have ediv2 : (n : Int) / 2 = ((n / 2 : Nat) : Int) := by omega
      have etm : Int.tmod (n : Int) 2 = (n : Int) % 2 := Int.tmod_eq_emod_of_nonneg (Int.natCast_nonneg n)
      have hpos : (n : Int) > 0 := by omega
      by_cases hpar : n % 2 = 1
      · have hc : (n : Int) % 2 = 1 := by omega
        have hr := ih (n / 2) (by omega) (a * a % p) (out * a % p) (by omega) (Nat.mod_lt _ (by omega)) (Nat.mod_lt _ (by omega))
        rw [pow_odd out a n p hpar] at hr
        constructor
        · refine Ev.step (fun k => ?_) hr.1
          simp only [ring_power.l0]
          rw [if_pos hpos, bit_one hn, if_pos hc, if_neg ep, e1, e2, ediv2]
        · refine Ev.step (fun k => ?_) hr.2
          simp only [fringeref10_Power.l0]
          rw [if_pos hpos, etm, if_pos hc, if_neg ep, e1, e2, ediv]
      · have hc : ¬ ((n : Int) % 2 = 1) := by omega
        have hr := ih (n / 2) (by omega) (a * a % p) out (by omega) (Nat.mod_lt _ (by omega)) ho
        rw [pow_even out a n p (by omega)] at hr
        constructor
        · refine Ev.step (fun k => ?_) hr.1
          simp only [ring_power.l0]
          rw [if_pos hpos, bit_one hn, if_neg hc, if_neg ep, e1, ediv2]
        · refine Ev.step (fun k => ?_) hr.2
          simp only [fringeref10_Power.l0]
          rw [if_pos hpos, etm, if_neg hc, if_neg ep, e1, ediv]
theorem power_ev {p n a : Nat} (hp : 2 ≤ p) (hp2 : p ≤ 2000000000) (hn : n ≤ 9223372036854775807) (ha : a < p) : Ev (fun k => ring_power.f k p a n) ((a ^ n % p : Nat) : Int) := by
  have := (power_loop p hp hp2 n a 1 hn ha (by omega)).1
  rw [Nat.one_mul, show ((1 : Nat) : Int) = 1 from rfl] at this
  exact Ev.congr (fun k => by unfold ring_power.f; rfl) this
theorem Power_ev {p n a : Nat} (hp : 2 ≤ p) (hp2 : p ≤ 2000000000) (hn : n ≤ 9223372036854775807) (ha : a < p) : Ev (fun k => fringeref10_Power.f k p a n) ((a ^ n % p : Nat) : Int) := by
  have := (power_loop p hp hp2 n a 1 hn ha (by omega)).2
  rw [Nat.one_mul, show ((1 : Nat) : Int) = 1 from rfl] at this
  exact Ev.congr (fun k => by unfold fringeref10_Power.f; rfl) this

/-! a modulus and an element -/
theorem both_ev (a b : Int) : (¬ Mod a → Ev (fun k => ring_both.f k a b) 2 ∧ Ev (fun k => fringeref10_Both.f k a b) 2) ∧
    (Mod a → (b < 0 ∨ a ≤ b) → Ev (fun k => ring_both.f k a b) 8 ∧ Ev (fun k => fringeref10_Both.f k a b) 8) ∧
    (Mod a → 0 ≤ b → b < a → Ev (fun k => ring_both.f k a b) 0 ∧ Ev (fun k => fringeref10_Both.f k a b) 0) := by
  have h1 : ∀ k, ring_both.f k a b = (ring_Check.f k a).bind fun t101 => (if t101 = 0 then (if b < 0 then (some 8) else (if b ≥ a then (some 8) else (some 0))) else (some t101)) := fun k => by unfold ring_both.f; rfl
  have h2 : ∀ k, fringeref10_Both.f k a b = (fringeref10_Check.f k a).bind fun t101 => (if t101 = 0 then (if b < 0 then (some 8) else (if b ≥ a then (some 8) else (some 0))) else (some 2)) := fun k => by unfold fringeref10_Both.f; rfl
  refine ⟨fun h => ⟨Ev.congr h1 (Ev.bind ((ring_Check_ev a).2 h) ?_), Ev.congr h2 (Ev.bind ((refCheck_ev a).2 h) ?_)⟩,
    fun h hb => ⟨Ev.congr h1 (Ev.bind ((ring_Check_ev a).1 h) ?_), Ev.congr h2 (Ev.bind ((refCheck_ev a).1 h) ?_)⟩,
    fun h hb hb2 => ⟨Ev.congr h1 (Ev.bind ((ring_Check_ev a).1 h) ?_), Ev.congr h2 (Ev.bind ((refCheck_ev a).1 h) ?_)⟩⟩
  · rw [if_neg (by decide)]; exact Ev.now _
  · rw [if_neg (by decide)]; exact Ev.now _
  · simp only [if_true]
    rcases hb with hb | hb
    · rw [if_pos hb]; exact Ev.now _
    · by_cases h3 : b < 0
      · rw [if_pos h3]; exact Ev.now _
      · rw [if_neg h3, if_pos hb]; exact Ev.now _
  · simp only [if_true]
    rcases hb with hb | hb
    · rw [if_pos hb]; exact Ev.now _
    · by_cases h3 : b < 0
      · rw [if_pos h3]; exact Ev.now _
      · rw [if_neg h3, if_pos hb]; exact Ev.now _
  · simp only [if_true]; rw [if_neg (by omega), if_neg (by omega)]; exact Ev.now _
  · simp only [if_true]; rw [if_neg (by omega), if_neg (by omega)]; exact Ev.now _
end Go.Proofs.Ytbopgopggnagpaa.RL
set_option linter.unusedVariables false
set_option linter.unusedSimpArgs false
namespace Go.Proofs.Ytbopgopggnagpaa.RL
open Go Go.RowKit Go.Proofs.Ytbopgopggnagpaa.PAll Go.Proofs.YtbopgopggnagpaaW.PrintWords Go.Proofs.YtbopgopggnagpaaW.PrintLast RM

theorem evp {α : Type} {c : Prop} [Decidable c] {g f : Nat → Option α} {r : α} (h : c) (e : Ev g r) : Ev (fun k => if c then g k else f k) r := Ev.congr (fun k => if_pos h) e
theorem evn {α : Type} {c : Prop} [Decidable c] {g f : Nat → Option α} {r : α} (h : ¬ c) (e : Ev f r) : Ev (fun k => if c then g k else f k) r := Ev.congr (fun k => if_neg h) e
/-! the inverse, by Euclid -/
theorem neg_lt_tmod (s : Int) {p : Int} (hp : 0 < p) : -p < Int.tmod s p := by
  have h1 := Int.tmod_lt_of_pos (-s) hp
  rw [Int.neg_tmod] at h1
  omega
theorem gcd_step (x y : Nat) (hy : 0 < y) : Nat.gcd y (x % y) = Nat.gcd x y := by rw [Nat.gcd_comm y, ← Nat.gcd_rec, Nat.gcd_comm]
theorem inv_loop (p a : Nat) (hp : 2 ≤ p) (hp2 : p ≤ 2000000000) : ∀ (y x : Nat) (s t : Int), x ≤ p → y ≤ p → 1 ≤ x → Nat.gcd x y = 1 →
    ((p : Int) ∣ s * a - x) → ((p : Int) ∣ t * a - y) → (0 ≤ s ∧ t ≤ 0 ∧ s * y - t * x = p ∨ s ≤ 0 ∧ 0 ≤ t ∧ t * x - s * y = p) →
    ∃ r : Nat, Ev (fun k => ring_Inv.l0 k p x y s t) ((r : Int), 0) ∧ r < p ∧ (p : Int) ∣ (r : Int) * a - 1 := by
  intro y
  induction y using Nat.strongRecOn with
  | _ y ih =>
    intro x s t hx hy h1 hg hs ht hst
    have ep : ¬ ((p : Int) = 0) := by omega
    by_cases h0 : y = 0
    · subst h0
      have hx1 : x = 1 := by simpa using hg
      subst hx1
      have hb1 := Int.tmod_lt_of_pos s (show (0 : Int) < p by omega)
      have hb2 := neg_lt_tmod s (show (0 : Int) < p by omega)
      have hnn : 0 ≤ Int.tmod s p + p := by omega
      have hr0 : 0 ≤ Int.tmod (Int.tmod s p + p) p := Int.tmod_nonneg _ hnn
      have hr1 := Int.tmod_lt_of_pos (Int.tmod s p + p) (show (0 : Int) < p by omega)
      refine ⟨(Int.tmod (Int.tmod s p + p) p).toNat, Ev.step (f := fun _ => some ((((Int.tmod (Int.tmod s p + p) p).toNat : Nat) : Int), 0)) (fun k => ?_) (Ev.now _), by omega, ?_⟩
      · simp only [ring_Inv.l0]
        rw [if_neg (by omega), if_neg ep, w64 (by omega) (by omega), Int.toNat_of_nonneg hr0]
      · rw [Int.toNat_of_nonneg hr0]
        have e1 : (p : Int) ∣ Int.tmod (Int.tmod s p + p) p - s := by
          have a1 := Int.tmod_add_mul_tdiv (Int.tmod s p + p) p
          have a2 := Int.tmod_add_mul_tdiv s p
          refine ⟨1 - Int.tdiv (Int.tmod s p + p) p - Int.tdiv s p, ?_⟩
          rw [Int.mul_sub, Int.mul_sub]
          omega
        have e2 : Int.tmod (Int.tmod s p + p) p * a - 1 = (Int.tmod (Int.tmod s p + p) p - s) * a + (s * a - (1 : Nat)) := by
          rw [Int.sub_mul]
          omega
        rw [e2]
        exact Int.dvd_add (Int.dvd_trans e1 (Int.dvd_mul_right _ _)) hs
    · have hy0 : 0 < y := Nat.pos_of_ne_zero h0
      have hlt := Nat.mod_lt x hy0
      have hdm := Nat.div_add_mod x y
      have hqy : (x / y : Nat) * y ≤ x := Nat.div_mul_le_self x y
      have hqx : x / y ≤ x := Nat.div_le_self x y
      have hqm : x / y * y + x % y = x := by rw [Nat.mul_comm]; exact hdm
      obtain ⟨q, hqq⟩ : ∃ q : Nat, q = x / y := ⟨_, rfl⟩
      rw [← hqq] at hqy hqx hqm
      have hxy : (x : Int) = q * y + ((x % y : Nat) : Int) := by
        rw [mulN]
        omega
      -- the bounds
      have key : (0 ≤ t ∧ s - q * t ≤ 0 ∧ t * ((x % y : Nat) : Int) - (s - q * t) * y = p) ∨ (t ≤ 0 ∧ 0 ≤ s - q * t ∧ (s - q * t) * y - t * ((x % y : Nat) : Int) = p) := by
        rcases hst with ⟨a1, a2, a3⟩ | ⟨a1, a2, a3⟩
        · right
          refine ⟨a2, ?_, ?_⟩
          · have : (q : Int) * t ≤ 0 := Int.mul_nonpos_of_nonneg_of_nonpos (by omega) a2
            omega
          · rw [hxy] at a3
            rw [← a3]
            generalize ((x % y : Nat) : Int) = z
            grind
        · left
          refine ⟨a2, ?_, ?_⟩
          · have : 0 ≤ (q : Int) * t := Int.mul_nonneg (by omega) a2
            omega
          · rw [hxy] at a3
            rw [← a3]
            generalize ((x % y : Nat) : Int) = z
            grind
      have hbd : -(p : Int) ≤ s - q * t ∧ s - q * t ≤ p := by
        rcases key with ⟨a1, a2, a3⟩ | ⟨a1, a2, a3⟩
        · have b1 : 0 ≤ t * ((x % y : Nat) : Int) := Int.mul_nonneg a1 (by omega)
          have b2 : -(s - q * t) * 1 ≤ -(s - q * t) * y := Int.mul_le_mul_of_nonneg_left (by omega) (by omega)
          rw [Int.neg_mul, Int.neg_mul] at b2
          omega
        · have b1 : t * ((x % y : Nat) : Int) ≤ 0 := Int.mul_nonpos_of_nonpos_of_nonneg a1 (by omega)
          have b2 : (s - q * t) * 1 ≤ (s - q * t) * y := Int.mul_le_mul_of_nonneg_left (by omega) (by omega)
          omega
      have hsb : -(p : Int) ≤ s ∧ s ≤ p := by
        rcases hst with ⟨a1, a2, a3⟩ | ⟨a1, a2, a3⟩
        · have b1 : t * (x : Int) ≤ 0 := Int.mul_nonpos_of_nonpos_of_nonneg a2 (by omega)
          have b2 : s * 1 ≤ s * y := Int.mul_le_mul_of_nonneg_left (by omega) a1
          omega
        · have b1 : 0 ≤ t * (x : Int) := Int.mul_nonneg a2 (by omega)
          have b2 : -s * 1 ≤ -s * y := Int.mul_le_mul_of_nonneg_left (by omega) (by omega)
          rw [Int.neg_mul, Int.neg_mul] at b2
          omega
      obtain ⟨r, hE, hr1, hr2⟩ := ih (x % y) hlt y t (s - q * t) hy (by omega) hy0 (by rw [gcd_step x y hy0]; exact hg) ht (by
        have e5 : (s - q * t) * a - ((x % y : Nat) : Int) = (s * a - x) - q * (t * a - y) := by
          rw [hxy]
          generalize ((x % y : Nat) : Int) = z
          grind
        rw [e5]
        exact Int.dvd_sub hs (Int.dvd_trans ht (Int.dvd_mul_left _ _))) (by
        rcases key with h | h
        · exact .inl ⟨h.1, h.2.1, h.2.2⟩
        · exact .inr ⟨h.1, h.2.1, h.2.2⟩)
      refine ⟨r, Ev.step (fun k => ?_) hE, hr1, hr2⟩
      have b1 : q ≤ 9223372036854775807 := by omega
      have b2 : q * y ≤ 9223372036854775807 := by omega
      have b3 : -9223372036854775808 ≤ (x : Int) - ((q * y : Nat) : Int) := by omega
      have b4 : (x : Int) - ((q * y : Nat) : Int) ≤ 9223372036854775807 := by omega
      have b5 : (x : Int) - ((q * y : Nat) : Int) = ((x % y : Nat) : Int) := by omega
      have b6 : -9223372036854775808 ≤ (q : Int) * t := by omega
      have b7 : (q : Int) * t ≤ 9223372036854775807 := by omega
      have b8 : -9223372036854775808 ≤ s - q * t := by omega
      have b9 : s - q * t ≤ 9223372036854775807 := by omega
      have c1 : (y : Int) > 0 := by omega
      have c2 : ¬ ((y : Int) = 0) := by omega
      simp only [ring_Inv.l0]
      rw [if_pos c1, if_neg c2, tdivN, ← hqq, w64N b1, mulN, w64N b2, w64 b3 b4, b5, w64 b6 b7, w64 b8 b9]
theorem dvd_emod {p r a : Nat} (hp : 2 ≤ p) (h : (p : Int) ∣ (r : Int) * a - 1) : a * r % p = 1 := by
  obtain ⟨c, hc⟩ := h
  have h1 : ((a * r : Nat) : Int) = 1 + p * c := by
    rw [← mulN, Int.mul_comm]
    omega
  have h2 : ((a * r : Nat) : Int) % (p : Int) = 1 := by
    rw [h1, Int.add_mul_emod_self_left]
    exact Int.emod_eq_of_lt (by omega) (by omega)
  have h3 : ((a * r % p : Nat) : Int) = 1 := by rw [Int.natCast_emod]; exact h2
  omega
theorem inv_start {p a : Nat} (hp : Pr p) (hp2 : p ≤ 2000000000) (h1 : 1 ≤ a) (h2 : a < p) : Ev (fun k => ring_Inv.l0 k p a p 1 0) (((a ^ (p - 2) % p : Nat) : Int), 0) := by
  have hp0 := hp.1
  have hna := hp.not_dvd_lt (by omega) h2
  obtain ⟨r, hE, hr1, hr2⟩ := inv_loop p a hp0 hp2 p a 1 0 (by omega) (by omega) h1 (by rw [Nat.gcd_comm]; exact hp.coprime hna) (by simp) (by simp) (.inl ⟨by omega, by omega, by simp⟩)
  have hr3 := dvd_emod hp0 hr2
  have he := inv_unique hp hna hr1 (Nat.mod_lt _ (by omega)) hr3 (fermat_inv hp hna)
  rw [he] at hE
  exact hE
theorem ring_Inv_ev {p a : Nat} (hp : Pr p) (hp2 : p ≤ 2000000000) (h1 : 1 ≤ a) (h2 : a < p) :
    Ev (fun k => ring_Inv.f k p a) (((a ^ (p - 2) % p : Nat) : Int), 0) ∧ Ev (fun k => fringeref10_Inv.f k p a) (((a ^ (p - 2) % p : Nat) : Int), 0) := by
  have hp0 := hp.1
  have hb := (both_ev p a).2.2 ⟨p, rfl, hp2, hp⟩ (by omega) (by omega)
  constructor
  · refine Ev.congr (fun k => by unfold ring_Inv.f; rfl) (Ev.bind hb.1 ?_)
    exact evp rfl (evn (by omega) (inv_start hp hp2 h1 h2))
  · refine Ev.congr (fun k => by unfold fringeref10_Inv.f; rfl) (Ev.bind hb.2 ?_)
    rw [show wrap64 ((p : Int) - 2) = ((p - 2 : Nat) : Int) by rw [w64 (by omega) (by omega)]; omega]
    exact evp rfl (evn (by omega) (Ev.bind (f := fun _ t120 => some (t120, 0)) (Power_ev (n := p - 2) hp0 hp2 (by omega) h2) (Ev.now _)))
end Go.Proofs.Ytbopgopggnagpaa.RL
set_option linter.unusedVariables false
set_option linter.unusedSimpArgs false
namespace Go.Proofs.Ytbopgopggnagpaa.RL
open Go Go.RowKit Go.Proofs.Ytbopgopggnagpaa.PAll Go.Proofs.YtbopgopggnagpaaW.PrintWords Go.Proofs.YtbopgopggnagpaaW.PrintLast RM

/-! orders -/
theorem rd_cl (L : List Nat) (i : Nat) (h : i < L.length) : rd (cl L) (i : Int) = (L[i] : Int) := by
  simp [rd, cl, List.getD_eq_getElem?_getD, h]
theorem divN {n q : Nat} (hn : n ≤ 2000000000) : wrap64 (Int.tdiv (n : Int) (q : Int)) = ((n / q : Nat) : Int) := by
  have := Nat.div_le_self n q
  rw [tdivN, w64N (by omega)]
theorem pred1 {p : Nat} (hp : 2 ≤ p) (hp2 : p ≤ 2000000000) : wrap64 ((p : Int) - 1) = ((p - 1 : Nat) : Int) := by
  rw [w64 (by omega) (by omega)]; omega
theorem succ1 {i : Nat} (hi : i ≤ 4000000000) : wrap64 ((i : Int) + 1) = ((i + 1 : Nat) : Int) := by
  rw [w64 (by omega) (by omega)]; rfl
theorem order_loop (p a : Nat) (hp : 2 ≤ p) (hp2 : p ≤ 2000000000) (ha : a < p) (L : List Nat) (hL : ∀ x ∈ L, Pr x) (hl : L.length ≤ 2000000000) : ∀ (m i n : Nat), i + m = L.length → n ≤ 2000000000 →
    Ev (fun k => fringeref10_order.l0 k p a n (cl L) i) (ordl p a n (L.drop i) : Int) := by
  intro m
  induction m with
  | zero =>
    intro i n hi hn
    have hd : L.drop i = [] := List.drop_eq_nil_of_le (by omega)
    rw [hd, ordl]
    refine Ev.step (f := fun _ => some (n : Int)) (fun k => ?_) (Ev.now _)
    simp only [fringeref10_order.l0, cl_length]
    rw [if_neg (by omega)]
  | succ m ih =>
    intro i n hi hn
    have hlt : i < L.length := by omega
    have hq := (hL _ (List.getElem_mem hlt)).1
    have hdl := Nat.div_le_self n L[i]
    have hd : L.drop i = L[i] :: L.drop (i + 1) := List.drop_eq_getElem_cons hlt
    have e1 := rd_cl L i hlt
    have c1 : ¬ (((L[i] : Nat) : Int) = 0) := by omega
    have c2 : (i : Int) < (L.length : Int) := by omega
    have c3 : (0 : Int) ≤ (i : Int) := by omega
    have hP2 := Power_ev (n := n / L[i]) hp hp2 (by omega) ha
    have ih1 := ih (i + 1) (n / L[i]) (by omega) (by omega)
    have ih2 := ih (i + 1) n (by omega) hn
    rw [hd, ordl]
    have hs := succ1 (i := i) (by omega)
    have hdv := divN (n := n) (q := L[i]) hn
    by_cases hc : a ^ (n / L[i]) % p = 1
    · rw [if_pos hc]
      rw [hc] at hP2
      refine Ev.step (f := fun k => (fringeref10_Power.f k p a ((n / L[i] : Nat) : Int)).bind fun t136 => (if t136 = 1 then (fringeref10_order.l0 k p a ((n / L[i] : Nat) : Int) (cl L) ((i + 1 : Nat) : Int)) else (fringeref10_order.l0 k p a n (cl L) ((i + 1 : Nat) : Int)))) (fun k => ?_) (Ev.bind hP2 (evp rfl ih1))
      simp only [fringeref10_order.l0]
      rw [cl_length, if_pos c2, if_pos c3, e1, if_neg c1, hdv, hs]
    · rw [if_neg hc]
      have hc' : ¬ (((a ^ (n / L[i]) % p : Nat) : Int) = 1) := by omega
      refine Ev.step (f := fun k => (fringeref10_Power.f k p a ((n / L[i] : Nat) : Int)).bind fun t136 => (if t136 = 1 then (fringeref10_order.l0 k p a ((n / L[i] : Nat) : Int) (cl L) ((i + 1 : Nat) : Int)) else (fringeref10_order.l0 k p a n (cl L) ((i + 1 : Nat) : Int)))) (fun k => ?_) (Ev.bind hP2 (evn hc' ih2))
      simp only [fringeref10_order.l0]
      rw [cl_length, if_pos c2, if_pos c3, e1, if_neg c1, hdv, hs]
/-- The order of a. -/
noncomputable def ordr (p a : Nat) : Nat := ordl p a (p - 1) (pfl (p - 1))
theorem pfl_len {n : Nat} (h1 : 1 ≤ n) (h2 : n ≤ 2000000000) : (pfl n).length ≤ 2000000000 := Nat.le_trans (pfl_length_le n h1) h2
theorem order_ev {p a : Nat} (hp : Pr p) (hp2 : p ≤ 2000000000) (ha : a < p) :
    Ev (fun k => fringeref10_order.f k p a) (ordr p a : Int) := by
  have hp0 := hp.1
  have h := order_loop p a hp0 hp2 ha (pfl (p - 1)) (pfl_prime _) (pfl_len (by omega) (by omega)) (pfl (p - 1)).length 0 (p - 1) (by omega) (by omega)
  rw [List.drop_zero] at h
  refine Ev.congr (fun k => by unfold fringeref10_order.f; rw [pred1 hp0 hp2]) (Ev.bind (refF_ev (n := p - 1) (by omega) (by omega)) ?_)
  exact h
/-! generators -/
def Good (p g : Nat) : Prop := ∀ q ∈ pfl (p - 1), g ^ ((p - 1) / q) % p ≠ 1
theorem exists_gen {p : Nat} (hp : Pr p) : ∃ g, (1 ≤ g ∧ g < p ∧ Good p g) ∧ ∀ h, 1 ≤ h → h < g → ¬ Good p h := by
  have hp0 := hp.1
  obtain ⟨g0, h1, h2, h3⟩ := prim_exists hp
  have key : ∀ n g, g ≤ n → 1 ≤ g → g < p → Good p g → ∃ g, (1 ≤ g ∧ g < p ∧ Good p g) ∧ ∀ h, 1 ≤ h → h < g → ¬ Good p h := by
    intro n
    induction n with
    | zero => intro g hg h1; omega
    | succ n ih =>
      intro g hg h1 h2 h3
      by_cases hs : ∃ h, 1 ≤ h ∧ h < g ∧ Good p h
      · obtain ⟨h, a1, a2, a3⟩ := hs
        exact ih h (by omega) a1 (by omega) a3
      · exact ⟨g, ⟨h1, h2, h3⟩, fun h a1 a2 a3 => hs ⟨h, a1, a2, a3⟩⟩
  exact key g0 g0 (Nat.le_refl _) h1 h2 (fun q hq => h3 q (pfl_prime _ q hq) (pfl_dvd (by omega) hq))
/-- The generator. -/
noncomputable def gen (p : Nat) : Nat := open Classical in if h : Pr p then Classical.choose (exists_gen h) else 0
theorem gen_spec {p : Nat} (hp : Pr p) : (1 ≤ gen p ∧ gen p < p ∧ Good p (gen p)) ∧ ∀ h, 1 ≤ h → h < gen p → ¬ Good p h := by
  unfold gen
  rw [dif_pos hp]
  exact Classical.choose_spec (exists_gen hp)
theorem gen_ord {p : Nat} (hp : Pr p) : Ord p (gen p) (p - 1) := by
  obtain ⟨⟨h1, h2, h3⟩, _⟩ := gen_spec hp
  have := hp.1
  exact prim_ord hp h1 h2 (fun q hq hd => h3 q (mem_pfl (by omega) hq hd))
theorem gen_inner (p : Nat) (hp : Pr p) (hp2 : p ≤ 2000000000) (g : Nat) (hg : g < p) : ∀ (m i : Nat), i + m = (pfl (p - 1)).length →
    ((∀ q ∈ (pfl (p - 1)).drop i, g ^ ((p - 1) / q) % p ≠ 1) → Ev (fun k => ring_generator.l1 k p (cl (pfl (p - 1))) g (cl (pfl (p - 1))) ((pfl (p - 1)).length : Int) i) (g : Int)) ∧
    (∀ r, ¬ (∀ q ∈ (pfl (p - 1)).drop i, g ^ ((p - 1) / q) % p ≠ 1) → Ev (fun k => ring_generator.l0 k p (cl (pfl (p - 1))) ((g + 1 : Nat) : Int)) r → Ev (fun k => ring_generator.l1 k p (cl (pfl (p - 1))) g (cl (pfl (p - 1))) ((pfl (p - 1)).length : Int) i) r) := by
  have hp0 := hp.1
  have hl := pfl_len (n := p - 1) (by omega) (by omega)
  generalize hL : pfl (p - 1) = L at *
  intro m
  induction m with
  | zero =>
    intro i hi
    have hd : L.drop i = [] := List.drop_eq_nil_of_le (by omega)
    rw [hd]
    refine ⟨fun _ => Ev.step (f := fun _ => some (g : Int)) (fun k => ?_) (Ev.now _), fun r h => absurd (fun q hq => by cases hq) h⟩
    simp only [ring_generator.l1]
    rw [if_neg (by omega)]
  | succ m ih =>
    intro i hi
    have hlt : i < L.length := by omega
    have hq := (pfl_prime (p - 1) L[i] (by rw [hL]; exact List.getElem_mem hlt)).1
    have hdl := Nat.div_le_self (p - 1) L[i]
    have hd : L.drop i = L[i] :: L.drop (i + 1) := List.drop_eq_getElem_cons hlt
    have e1 := rd_cl L i hlt
    have c1 : ¬ (((L[i] : Nat) : Int) = 0) := by omega
    have c2 : (i : Int) < (L.length : Int) := by omega
    have c3 : (0 : Int) ≤ (i : Int) := by omega
    have hP := power_ev (n := (p - 1) / L[i]) hp0 hp2 (by omega) hg
    have hI := ih (i + 1) (by omega)
    have hs := succ1 (i := i) (by omega)
    have hs2 := succ1 (i := g) (by omega)
    have hdv := divN (n := p - 1) (q := L[i]) (by omega)
    have hpr := pred1 hp0 hp2
    have hst : ∀ k, ring_generator.l1 (k + 1) p (cl L) g (cl L) (L.length : Int) i = (ring_power.f k p g (((p - 1) / L[i] : Nat) : Int)).bind fun t156 => (if t156 = 1 then (ring_generator.l0 k p (cl L) ((g + 1 : Nat) : Int)) else (ring_generator.l1 k p (cl L) g (cl L) (L.length : Int) ((i + 1 : Nat) : Int))) := fun k => by
      simp only [ring_generator.l1]
      rw [if_pos c2, if_pos c3, cl_length, if_pos c2, e1, if_neg c1, hpr, hdv, hs, hs2]
    rw [hd]
    by_cases hc : g ^ ((p - 1) / L[i]) % p = 1
    · rw [hc] at hP
      exact ⟨fun h => absurd hc (h L[i] List.mem_cons_self), fun r _ hr => Ev.step hst (Ev.bind hP (evp rfl hr))⟩
    · have hc' : ¬ (((g ^ ((p - 1) / L[i]) % p : Nat) : Int) = 1) := by omega
      refine ⟨fun h => Ev.step hst (Ev.bind hP (evn hc' (hI.1 (fun q hq => h q (List.mem_cons_of_mem _ hq))))), fun r h hr => Ev.step hst (Ev.bind hP (evn hc' (hI.2 r (fun h2 => h (fun q hq => ?_)) hr)))⟩
      rcases List.mem_cons.1 hq with e | hq
      · rw [e]; exact hc
      · exact h2 q hq
theorem gen_loop (p : Nat) (hp : Pr p) (hp2 : p ≤ 2000000000) : ∀ (m g : Nat), g + m = gen p → 1 ≤ g → Ev (fun k => ring_generator.l0 k p (cl (pfl (p - 1))) g) (gen p : Int) ∧ Ev (fun k => fringeref10_generator.l0 k p g) (gen p : Int) := by
  have hp0 := hp.1
  obtain ⟨⟨h1, h2, h3⟩, h4⟩ := gen_spec hp
  have hst : ∀ (g : Nat) k, ring_generator.l0 (k + 1) p (cl (pfl (p - 1))) g = ring_generator.l1 k p (cl (pfl (p - 1))) g (cl (pfl (p - 1))) ((pfl (p - 1)).length : Int) ((0 : Nat) : Int) := fun g k => by
    simp only [ring_generator.l0, cl_length]; rfl
  have hst2 : ∀ (g : Nat) k, g < p → fringeref10_generator.l0 (k + 1) p g = (fringeref10_order.f k p g).bind fun t159 => (if t159 = ((p - 1 : Nat) : Int) then (some (g : Int)) else (fringeref10_generator.l0 k p ((g + 1 : Nat) : Int))) := fun g k hg => by
    simp only [fringeref10_generator.l0]
    rw [pred1 hp0 hp2, succ1 (by omega)]
  have hfull : ∀ g, g < p → (ordr p g = p - 1 ↔ Good p g) := fun g _ => ordl_full p g (pfl (p - 1)) (p - 1) (by omega) (fun x hx => (pfl_prime _ x hx).1)
  intro m
  induction m with
  | zero =>
    intro g hg _
    have : g = gen p := by omega
    subst this
    constructor
    · exact Ev.step (hst _) ((gen_inner p hp hp2 _ h2 _ 0 (Nat.zero_add _)).1 (by rw [List.drop_zero]; exact h3))
    · refine Ev.step (fun k => hst2 _ k h2) (Ev.bind (order_ev hp hp2 h2) (evp ?_ (Ev.now _)))
      have := (hfull _ h2).2 h3
      omega
  | succ m ih =>
    intro g hg hg1
    have hI := ih (g + 1) (by omega) (by omega)
    have hlt : g < p := by omega
    have hb := h4 g hg1 (by omega)
    constructor
    · exact Ev.step (hst _) ((gen_inner p hp hp2 _ hlt _ 0 (Nat.zero_add _)).2 _ (by rw [List.drop_zero]; exact hb) hI.1)
    · refine Ev.step (fun k => hst2 _ k hlt) (Ev.bind (order_ev hp hp2 hlt) (evn ?_ hI.2))
      intro he
      exact hb ((hfull _ hlt).1 (by omega))
theorem gen_ev {p : Nat} (hp : Pr p) (hp2 : p ≤ 2000000000) : Ev (fun k => ring_generator.f k p) (gen p : Int) ∧ Ev (fun k => fringeref10_generator.f k p) (gen p : Int) := by
  have hp0 := hp.1
  obtain ⟨⟨h1, h2, h3⟩, h4⟩ := gen_spec hp
  have h := gen_loop p hp hp2 (gen p - 1) 1 (by omega) (by omega)
  exact ⟨Ev.congr (fun k => by unfold ring_generator.f; rw [pred1 hp0 hp2]) (Ev.bind (split_ev (n := p - 1) (by omega) (by omega)) h.1), Ev.congr (fun k => by unfold fringeref10_generator.f; rfl) h.2⟩
/-! roots -/
theorem Root_ev {p n : Nat} (hp : Pr p) (hp2 : p ≤ 2000000000) (hn : 1 ≤ n) (hd : n ∣ p - 1) :
    Ev (fun k => ring_Root.f k p n) (((gen p ^ ((p - 1) / n) % p : Nat) : Int), 0) ∧ Ev (fun k => fringeref10_Root.f k p n) (((gen p ^ ((p - 1) / n) % p : Nat) : Int), 0) := by
  have hm : Mod (p : Int) := ⟨p, rfl, hp2, hp⟩
  have hp0 := hp.1
  have h := gen_ev hp hp2
  have hg := (gen_spec hp).1.2.1
  have hdl := Nat.div_le_self (p - 1) n
  have e1 : Int.tmod ((p - 1 : Nat) : Int) (n : Int) = 0 := by rw [tmodN, Nat.mod_eq_zero_of_dvd hd]; rfl
  have c1 : ¬ (Int.tmod ((p - 1 : Nat) : Int) (n : Int) > 0) := by rw [e1]; decide
  constructor
  · refine Ev.congr (fun k => by unfold ring_Root.f; rw [pred1 hp0 hp2, divN (by omega)]) (Ev.bind ((ring_Check_ev p).1 hm) ?_)
    exact evp rfl (evn (by omega) (evn (by omega) (evn c1 (Ev.bind h.1 (Ev.bind (power_ev hp0 hp2 (by omega) hg) (Ev.now _))))))
  · refine Ev.congr (fun k => by unfold fringeref10_Root.f; rw [pred1 hp0 hp2, divN (by omega)]) (Ev.bind ((refCheck_ev p).1 hm) ?_)
    exact evp rfl (evn (by omega) (evn (by omega) (evp e1 (Ev.bind h.2 (Ev.bind (Power_ev hp0 hp2 (by omega) hg) (Ev.now _))))))
/-! lists that are the same -/
end Go.Proofs.Ytbopgopggnagpaa.RL
/- Pure mathematics of transforms: sums over ranges modulo a prime, roots of one, the transform of a list, its inverse, convolutions, turns. No program in sight. -/
set_option linter.unusedVariables false
set_option linter.unusedSimpArgs false
namespace FM
open RM

def S (n : Nat) (f : Nat → Nat) : Nat := match n with
  | 0 => 0
  | n + 1 => S n f + f n
theorem S_succ (n : Nat) (f : Nat → Nat) : S (n + 1) f = S n f + f n := rfl
theorem S_congr {n : Nat} {f g : Nat → Nat} (h : ∀ j, j < n → f j = g j) : S n f = S n g := by
  induction n with
  | zero => rfl
  | succ n ih => rw [S_succ, S_succ, ih (fun j hj => h j (by omega)), h n (by omega)]
theorem S_mod {p n : Nat} {f g : Nat → Nat} (h : ∀ j, j < n → f j % p = g j % p) : S n f % p = S n g % p := by
  induction n with
  | zero => rfl
  | succ n ih => rw [S_succ, S_succ, Nat.add_mod, ih (fun j hj => h j (by omega)), h n (by omega), ← Nat.add_mod]
theorem S_mul (n c : Nat) (f : Nat → Nat) : S n (fun j => c * f j) = c * S n f := by
  induction n with
  | zero => rfl
  | succ n ih => rw [S_succ, S_succ, ih, Nat.mul_add]
theorem S_mulr (n c : Nat) (f : Nat → Nat) : S n (fun j => f j * c) = S n f * c := by
  rw [Nat.mul_comm, ← S_mul]; exact S_congr fun j _ => Nat.mul_comm _ _
theorem S_nil (n : Nat) : S n (fun _ => 0) = 0 := by
  induction n with
  | zero => rfl
  | succ n ih => rw [S_succ, ih]
theorem S_split (a b : Nat) (f : Nat → Nat) : S (a + b) f = S a f + S b (fun j => f (a + j)) := by
  induction b with
  | zero => rfl
  | succ b ih => rw [← Nat.add_assoc, S_succ, S_succ, ih]; omega
theorem S_even_odd (m : Nat) (f : Nat → Nat) : S (2 * m) f = S m (fun j => f (2 * j)) + S m (fun j => f (2 * j + 1)) := by
  induction m with
  | zero => rfl
  | succ m ih => rw [show 2 * (m + 1) = 2 * m + 1 + 1 by omega, S_succ, S_succ, S_succ, S_succ, ih]; omega
/-! ### roots of one -/
theorem mmod {p a b c d : Nat} (h : a % p = b % p) (k : c % p = d % p) : a * c % p = b * d % p := by rw [Nat.mul_mod, h, k, ← Nat.mul_mod]
theorem amod {p a b c d : Nat} (h : a % p = b % p) (k : c % p = d % p) : (a + c) % p = (b + d) % p := by rw [Nat.add_mod, h, k, ← Nat.add_mod]
theorem mm (a p : Nat) : a % p % p = a % p := Nat.mod_mod a p
theorem pow_mod_n {p w n : Nat} (hp : 2 ≤ p) (hO : Ord p w n) (k : Nat) : w ^ (k % n) % p = w ^ k % p := by
  conv => rhs; rw [← Nat.div_add_mod k n, Nat.pow_add]
  have := pow_one_mul hp hO.2.1 (k / n)
  rw [Nat.mul_mod, this, Nat.one_mul, mm]
theorem pow_cong {p w n a b : Nat} (hp : 2 ≤ p) (hO : Ord p w n) (h : a % n = b % n) : w ^ a % p = w ^ b % p := by
  rw [← pow_mod_n hp hO a, h, pow_mod_n hp hO]
/-- What is a power of w, by the exponent n - 1, is its inverse. -/
theorem inv_pow {p w n : Nat} (hp : 2 ≤ p) (hO : Ord p w n) : w * (w ^ (n - 1) % p) % p = 1 := by
  have e : w * (w ^ (n - 1) % p) % p = w * w ^ (n - 1) % p := mmod rfl (mm _ _)
  have h1 := hO.1
  have e2 : w * w ^ (n - 1) = w ^ n := by
    obtain ⟨m, rfl⟩ : ∃ m, n = m + 1 := ⟨n - 1, by omega⟩
    rw [Nat.add_sub_cancel, Nat.pow_succ, Nat.mul_comm]
  rw [e, e2, hO.2.1]
theorem ndvd {p w n : Nat} (hp : Pr p) (hO : Ord p w n) : ¬ p ∣ w := by
  intro h
  have hp2 := hp.1
  have h1 := hO.1
  have : p ∣ w ^ n := Nat.dvd_trans h (by rw [show n = (n - 1) + 1 by omega, Nat.pow_succ]; exact Nat.dvd_mul_left _ _)
  have := Nat.mod_eq_zero_of_dvd this
  have := hO.2.1
  omega
theorem ord_inv {p w n : Nat} (hp : Pr p) (hO : Ord p w n) : Ord p (w ^ (n - 1) % p) n := by
  have hp2 := hp.1
  have h1 := hO.1
  refine ⟨h1, ?_, fun q hq hqn he => ?_⟩
  · rw [pow_mod_pow, Nat.mul_comm]; exact pow_one_mul hp2 hO.2.1 _
  · rw [pow_mod_pow] at he
    refine hO.2.2 q hq hqn ?_
    have : w ^ ((n - 1) * (n / q)) % p * (w ^ (n / q) % p) % p = 1 := by
      have e3 : ∀ c : Nat, (n - 1) * c + c = n * c := fun c => by
        obtain ⟨m, rfl⟩ : ∃ m, n = m + 1 := ⟨n - 1, by omega⟩
        rw [Nat.add_sub_cancel, Nat.succ_mul]
      rw [pow_mod_mul, e3]
      exact pow_one_mul hp2 hO.2.1 _
    rw [he, Nat.one_mul, mm] at this
    exact this
theorem ord_sq {p w m : Nat} (hp : 2 ≤ p) (hm : 1 ≤ m) (hO : Ord p w (2 * m)) : Ord p (w * w % p) m := by
  have e : ∀ k, (w * w % p) ^ k % p = w ^ (2 * k) % p := fun k => by
    rw [← Nat.pow_mod, ← Nat.pow_two, ← Nat.pow_mul]
  refine ⟨hm, by rw [e]; exact hO.2.1, fun q hq hqm he => ?_⟩
  rw [e] at he
  refine hO.2.2 q hq (Nat.dvd_trans hqm (Nat.dvd_mul_left _ _)) ?_
  rw [Nat.mul_div_assoc _ hqm]
  exact he
theorem ord_half {p w m : Nat} (hp : Pr p) (hm : 1 ≤ m) (hO : Ord p w (2 * m)) : w ^ m % p = p - 1 := by
  have hp2 := hp.1
  have h1 : w ^ m % p * (w ^ m % p) % p = 1 := by rw [pow_mod_mul, show m + m = 2 * m by omega]; exact hO.2.1
  have h2 : w ^ m % p ≠ 1 := by
    have := hO.2.2 2 ⟨by omega, fun d hd => by
      have h5 := Nat.le_of_dvd (by omega) hd
      have h6 : d ≠ 0 := fun h => by subst h; simp at hd
      omega⟩ (Nat.dvd_mul_right _ _)
    rwa [Nat.mul_div_cancel_left _ (by omega)] at this
  have hlt := Nat.mod_lt (w ^ m) (show 0 < p by omega)
  generalize w ^ m % p = x at *
  have hx0 : x ≠ 0 := by rintro rfl; simp at h1
  have hd : p ∣ (x - 1) * (x + 1) := by
    have e : (x - 1) * (x + 1) + 1 = x * x := by
      obtain ⟨y, rfl⟩ : ∃ y, x = y + 1 := ⟨x - 1, by omega⟩
      rw [Nat.add_sub_cancel]
      simp [Nat.mul_add, Nat.add_mul]; omega
    have h3 : ((x - 1) * (x + 1) + 1) % p = (0 + 1) % p := by rw [e, h1]; exact (Nat.mod_eq_of_lt (by omega)).symm
    have h4 : ((x - 1) * (x + 1) + 1 + (p - 1)) % p = (0 + 1 + (p - 1)) % p := amod h3 rfl
    rw [show (x - 1) * (x + 1) + 1 + (p - 1) = (x - 1) * (x + 1) + p by omega, Nat.add_mod_right, show 0 + 1 + (p - 1) = p by omega, Nat.mod_self] at h4
    exact Nat.dvd_of_mod_eq_zero h4
  rcases hp.dvd_mul hd with h | h
  · have := Nat.le_of_dvd (by omega) h; omega
  · have := Nat.le_of_dvd (by omega) h; omega
/-! ### the transform of a list -/
def at_ (l : List Nat) (j : Nat) : Nat := l.getD j 0
def tab (n : Nat) (f : Nat → Nat) : List Nat := (List.range n).map f
theorem tab_length (n : Nat) (f : Nat → Nat) : (tab n f).length = n := by simp [tab]
theorem at_tab {n : Nat} (f : Nat → Nat) {j : Nat} (h : j < n) : at_ (tab n f) j = f j := by simp [at_, tab, List.getD, h]
theorem tab_congr {n : Nat} {f g : Nat → Nat} (h : ∀ j, j < n → f j = g j) : tab n f = tab n g := List.map_congr_left fun j hj => h j (List.mem_range.1 hj)
theorem tab_at (l : List Nat) : tab l.length (at_ l) = l := by
  refine List.ext_getElem (by simp [tab]) fun i h1 h2 => ?_
  simp [tab, at_, List.getD, h2]
theorem tab_succ (n : Nat) (f : Nat → Nat) : tab (n + 1) f = tab n f ++ [f n] := by simp [tab, List.range_succ]
theorem eq_of_at {l m : List Nat} (hl : l.length = m.length) (h : ∀ j, j < l.length → at_ l j = at_ m j) : l = m := by
  rw [← tab_at l, ← tab_at m, hl]
  exact tab_congr fun j hj => h j (by omega)
theorem at_lt {p : Nat} {l : List Nat} (h : ∀ x ∈ l, x < p) (hp : 0 < p) (j : Nat) : at_ l j < p := by
  unfold at_
  rw [List.getD_eq_getElem?_getD]
  cases hj : l[j]? with
  | none => exact hp
  | some x => exact h x (List.mem_of_getElem? hj)
def fwd (p w : Nat) (l : List Nat) : List Nat := tab l.length fun k => S l.length (fun j => at_ l j * w ^ (j * k)) % p
theorem fwd_length (p w : Nat) (l : List Nat) : (fwd p w l).length = l.length := tab_length _ _
theorem at_fwd {p w k : Nat} {l : List Nat} (h : k < l.length) : at_ (fwd p w l) k = S l.length (fun j => at_ l j * w ^ (j * k)) % p := at_tab _ h
theorem fwd_lt {p w : Nat} (hp : 0 < p) (l : List Nat) : ∀ x ∈ fwd p w l, x < p := by
  intro x hx
  simp only [fwd, tab, List.mem_map] at hx
  obtain ⟨k, _, rfl⟩ := hx
  exact Nat.mod_lt _ hp
def conv (p : Nat) (a b : List Nat) : List Nat := tab a.length fun k => S a.length (fun i => at_ a i * at_ b ((k + a.length - i) % a.length)) % p
theorem conv_length (p : Nat) (a b : List Nat) : (conv p a b).length = a.length := tab_length _ _
def turn (d : Nat) (l : List Nat) : List Nat := tab l.length fun k => at_ l ((k + l.length - d) % l.length)
/-! ### how it is reckoned -/
def hor (p a : Nat) : List Nat → Nat
  | [] => 0
  | x :: l => (hor p a l * a + x) % p
theorem hor_eq (p a : Nat) (l : List Nat) : hor p a l = S l.length (fun j => at_ l j * a ^ j) % p := by
  induction l with
  | nil => simp [hor, S]
  | cons x l ih =>
    rw [hor, List.length_cons, show l.length + 1 = 1 + l.length by omega, S_split, ih]
    have e : S l.length (fun j => at_ (x :: l) (1 + j) * a ^ (1 + j)) = S l.length (fun j => at_ l j * a ^ j) * a := by
      rw [← S_mulr]
      exact S_congr fun j _ => by rw [Nat.pow_add, Nat.pow_one, Nat.mul_comm a, ← Nat.mul_assoc, Nat.add_comm 1 j]; rfl
    rw [e, Nat.add_comm]
    have e2 : S 1 (fun j => at_ (x :: l) j * a ^ j) = x := by simp [S, at_]
    rw [e2]
    exact amod rfl (mmod (mm _ _) rfl)
theorem fwd_hor {p w k : Nat} {l : List Nat} (hk : k < l.length) : at_ (fwd p w l) k = hor p (w ^ k % p) l := by
  rw [at_fwd hk, hor_eq]
  refine S_mod fun j _ => mmod rfl ?_
  rw [pow_mod_pow, Nat.mul_comm]
def evens (l : List Nat) : List Nat := tab (l.length / 2) fun i => at_ l (2 * i)
def odds (l : List Nat) : List Nat := tab (l.length / 2) fun i => at_ l (2 * i + 1)
theorem fwd_low {p w m k : Nat} {l : List Nat} (hl : l.length = 2 * m) (hk : k < m) :
    at_ (fwd p w l) k = (at_ (fwd p (w * w % p) (evens l)) k + w ^ k % p * at_ (fwd p (w * w % p) (odds l)) k % p) % p := by
  have le : (evens l).length = m := by rw [evens, tab_length, hl]; omega
  have lo : (odds l).length = m := by rw [odds, tab_length, hl]; omega
  rw [at_fwd (by omega), at_fwd (by omega), at_fwd (by omega), le, lo, hl, S_even_odd]
  have sq : ∀ j, (w * w % p) ^ j % p = w ^ (2 * j) % p := fun j => by rw [← Nat.pow_mod, ← Nat.pow_two, ← Nat.pow_mul]
  refine amod ((S_mod fun j hj => ?_).trans (mm _ _).symm) ?_
  · rw [evens, at_tab _ (by omega)]
    refine mmod rfl ?_
    rw [sq, Nat.mul_assoc]
  · rw [mm]
    refine Eq.trans ?_ (mmod (mm _ _).symm (mm _ _).symm)
    rw [← S_mul]
    refine S_mod fun j hj => ?_
    rw [odds, at_tab _ (by omega), Nat.mul_left_comm]
    refine mmod rfl ?_
    refine Eq.trans ?_ (mmod rfl (sq (j * k)).symm)
    rw [← Nat.pow_add]
    congr 2
    rw [Nat.add_mul, Nat.one_mul, Nat.add_comm, Nat.mul_assoc]
theorem fwd_high {p w m k : Nat} (hp : Pr p) {l : List Nat} (hl : l.length = 2 * m) (hO : Ord p w (2 * m)) (hk : k < m) :
    at_ (fwd p w l) (k + m) = (at_ (fwd p (w * w % p) (evens l)) k + p - w ^ k % p * at_ (fwd p (w * w % p) (odds l)) k % p) % p := by
  have hp2 := hp.1
  have le : (evens l).length = m := by rw [evens, tab_length, hl]; omega
  have lo : (odds l).length = m := by rw [odds, tab_length, hl]; omega
  have hhalf := ord_half hp (by omega) hO
  have hx := Nat.mod_lt (w ^ k % p * at_ (fwd p (w * w % p) (odds l)) k) (show 0 < p by omega)
  have key : ∀ A X : Nat, X < p → (A + p - X) % p = (A + (p - 1) * X) % p := by
    intro A X hX
    have e : A + (p - 1) * X + p = (A + p - X) + p * X := by
      obtain ⟨q, rfl⟩ : ∃ q, p = q + 1 := ⟨p - 1, by omega⟩
      rw [Nat.add_sub_cancel, Nat.succ_mul]; omega
    have : (A + (p - 1) * X + p) % p = (A + p - X) % p := by rw [e, Nat.add_mul_mod_self_left]
    rw [← this, Nat.add_mod_right]
  rw [key _ _ hx, at_fwd (by omega), at_fwd (by omega), at_fwd (by omega), le, lo, hl, S_even_odd]
  have sq : ∀ j, (w * w % p) ^ j % p = w ^ (2 * j) % p := fun j => by rw [← Nat.pow_mod, ← Nat.pow_two, ← Nat.pow_mul]
  refine amod ((S_mod fun j hj => ?_).trans (mm _ _).symm) ?_
  · rw [evens, at_tab _ (by omega)]
    refine mmod rfl ?_
    rw [sq]
    refine pow_cong hp2 hO ?_
    rw [show 2 * j * (k + m) = 2 * (j * k) + 2 * m * j by rw [Nat.mul_add, Nat.mul_assoc, Nat.mul_assoc 2 j m, Nat.mul_assoc 2 m j, Nat.mul_comm j m], Nat.add_mul_mod_self_left]
  · refine Eq.trans ?_ (mmod rfl (mm _ _).symm)
    refine Eq.trans ?_ (mmod rfl (mmod (mm _ _).symm (mm _ _).symm))
    rw [← S_mul, ← S_mul]
    refine S_mod fun j hj => ?_
    rw [odds, at_tab _ (by omega), Nat.mul_left_comm (w ^ k), Nat.mul_left_comm (p - 1)]
    refine mmod rfl ?_
    refine Eq.trans ?_ (mmod rfl (mmod rfl (sq (j * k)).symm))
    rw [← hhalf]
    refine Eq.trans ?_ (mmod (mm _ _).symm rfl)
    rw [← Nat.pow_add, ← Nat.pow_add]
    refine pow_cong hp2 hO ?_
    rw [show (2 * j + 1) * (k + m) = (m + (k + 2 * (j * k))) + 2 * m * j by
      rw [Nat.add_mul, Nat.one_mul, Nat.mul_add, Nat.mul_assoc, Nat.mul_assoc 2 j m, Nat.mul_assoc 2 m j, Nat.mul_comm j m]; omega, Nat.add_mul_mod_self_left]
end FM
/- The transform, its inverse, convolutions, turns and phases: what the program's and the reference's loops come to, for every input. -/
set_option linter.unusedVariables false
set_option linter.unusedSimpArgs false
set_option linter.unusedSectionVars false
namespace Go.Proofs.Ytbopgopggnagpaa.FL
open Go Go.RowKit Go.Proofs.Ytbopgopggnagpaa.PAll Go.Proofs.YtbopgopggnagpaaW.PrintWords Go.Proofs.YtbopgopggnagpaaW.PrintLast RM FM Go.Proofs.Ytbopgopggnagpaa.RL

/-- A modulus and a list that is valid for it. -/
structure Fit (p : Nat) (L : List Nat) : Prop where
  pr : Pr p
  le : p ≤ 2000000000
  pos : 1 ≤ L.length
  len : L.length ≤ 64
  dvd : L.length ∣ p - 1
  lt : ∀ x ∈ L, x < p
theorem cl_get (L : List Nat) (i : Nat) : rd (cl L) (i : Int) = (at_ L i : Int) := by
  by_cases h : i < L.length
  · rw [rd_cl L i h]; simp [at_, List.getD_eq_getElem?_getD, h]
  · simp [rd, cl, at_, List.getD_eq_getElem?_getD, Nat.le_of_not_lt h]
theorem exists_cl : ∀ (l : List Int), (∀ x ∈ l, 0 ≤ x) → ∃ L : List Nat, l = cl L
  | [], _ => ⟨[], rfl⟩
  | x :: l, h => by
    obtain ⟨L, rfl⟩ := exists_cl l (fun y hy => h y (List.mem_cons_of_mem _ hy))
    obtain ⟨n, rfl⟩ := Int.eq_ofNat_of_zero_le (h x List.mem_cons_self)
    exact ⟨n :: L, rfl⟩
/-! checks -/
theorem min_loop (l : List Int) (hl : l.length ≤ 2000000000) : ∀ (m i : Nat) (a : Int), i + m = l.length → ∃ r, Ev (fun k => slices_Min_int64_int64.l0 k l a i) r ∧ (r < 0 ↔ a < 0 ∨ ∃ x ∈ l.drop i, x < 0) := by
  intro m
  induction m with
  | zero =>
    intro i a hi
    refine ⟨a, Ev.step (fun k => slices_Min_int64_int64.l0.eq_2 _ _ _ k) (evn (by omega) (Ev.now _)), ?_⟩
    rw [List.drop_eq_nil_of_le (by omega)]
    simp
  | succ m ih =>
    intro i a hi
    obtain ⟨r, h1, h2⟩ := ih (i + 1) (mn a (rd l i)) (by omega)
    refine ⟨r, Ev.step (fun k => slices_Min_int64_int64.l0.eq_2 _ _ _ k) (evp (by omega) (evp (by omega) ?_)), ?_⟩
    · rw [succ1 (by omega)]; exact h1
    · have hlt : i < l.length := by omega
      have e : rd l (i : Int) = l[i] := by simp [rd, List.getD_eq_getElem?_getD, hlt]
      rw [h2, List.drop_eq_getElem_cons hlt, e]
      have hm : mn a l[i] < 0 ↔ a < 0 ∨ l[i] < 0 := by unfold mn; split <;> omega
      rw [hm]
      simp only [List.mem_cons, or_and_right, exists_or, exists_eq_left, or_assoc]
theorem max_loop (l : List Int) (p : Int) (hl : l.length ≤ 2000000000) : ∀ (m i : Nat) (a : Int), i + m = l.length → ∃ r, Ev (fun k => slices_Max_int64_int64.l0 k l a i) r ∧ (r ≥ p ↔ a ≥ p ∨ ∃ x ∈ l.drop i, x ≥ p) := by
  intro m
  induction m with
  | zero =>
    intro i a hi
    refine ⟨a, Ev.step (fun k => slices_Max_int64_int64.l0.eq_2 _ _ _ k) (evn (by omega) (Ev.now _)), ?_⟩
    rw [List.drop_eq_nil_of_le (by omega)]
    simp
  | succ m ih =>
    intro i a hi
    obtain ⟨r, h1, h2⟩ := ih (i + 1) (mx a (rd l i)) (by omega)
    refine ⟨r, Ev.step (fun k => slices_Max_int64_int64.l0.eq_2 _ _ _ k) (evp (by omega) (evp (by omega) ?_)), ?_⟩
    · rw [succ1 (by omega)]; exact h1
    · have hlt : i < l.length := by omega
      have e : rd l (i : Int) = l[i] := by simp [rd, List.getD_eq_getElem?_getD, hlt]
      rw [h2, List.drop_eq_getElem_cons hlt, e]
      have hm : mx a l[i] ≥ p ↔ a ≥ p ∨ l[i] ≥ p := by unfold mx; split <;> omega
      rw [hm]
      simp only [List.mem_cons, or_and_right, exists_or, exists_eq_left, or_assoc]
theorem Min_ev {l : List Int} (h1 : 1 ≤ l.length) (hl : l.length ≤ 2000000000) : ∃ r, Ev (fun k => slices_Min_int64_int64.f k l) r ∧ (r < 0 ↔ ∃ x ∈ l, x < 0) := by
  obtain ⟨r, e, h⟩ := min_loop l hl (l.length - 1) 1 (rd l 0) (by omega)
  refine ⟨r, Ev.congr (fun k => slices_Min_int64_int64.f.eq_1 k _) (evn (by omega) (evp (by omega) e)), ?_⟩
  rw [h]
  obtain ⟨x, t, rfl⟩ : ∃ x t, l = x :: t := by cases l with | nil => simp at h1 | cons x t => exact ⟨x, t, rfl⟩
  simp [rd]
theorem Max_ev {l : List Int} (p : Int) (h1 : 1 ≤ l.length) (hl : l.length ≤ 2000000000) : ∃ r, Ev (fun k => slices_Max_int64_int64.f k l) r ∧ (r ≥ p ↔ ∃ x ∈ l, x ≥ p) := by
  obtain ⟨r, e, h⟩ := max_loop l p hl (l.length - 1) 1 (rd l 0) (by omega)
  refine ⟨r, Ev.congr (fun k => slices_Max_int64_int64.f.eq_1 k _) (evn (by omega) (evp (by omega) e)), ?_⟩
  rw [h]
  obtain ⟨x, t, rfl⟩ : ∃ x t, l = x :: t := by cases l with | nil => simp at h1 | cons x t => exact ⟨x, t, rfl⟩
  simp [rd]
theorem rc_loop (p : Int) (l : List Int) (hl : l.length ≤ 2000000000) : ∀ (m i : Nat), i + m = l.length →
    ((∀ x ∈ l.drop i, 0 ≤ x ∧ x < p) → Ev (fun k => fringeref11_Check.l0 k p l i) 0) ∧ (¬ (∀ x ∈ l.drop i, 0 ≤ x ∧ x < p) → Ev (fun k => fringeref11_Check.l0 k p l i) 8) := by
  intro m
  induction m with
  | zero =>
    intro i hi
    rw [List.drop_eq_nil_of_le (by omega)]
    exact ⟨fun _ => Ev.step (fun k => fringeref11_Check.l0.eq_2 _ _ _ k) (evn (by omega) (Ev.now _)), fun h => absurd (by simp) h⟩
  | succ m ih =>
    intro i hi
    obtain ⟨h1, h2⟩ := ih (i + 1) (by omega)
    have hlt : i < l.length := by omega
    have e : rd l (i : Int) = l[i] := by simp [rd, List.getD_eq_getElem?_getD, hlt]
    have hs : ∀ {r : Int} {f : Nat → Option Int}, Ev (fun k => if l[i] < 0 then some 8 else if l[i] ≥ p then some 8 else fringeref11_Check.l0 k p l ((i + 1 : Nat) : Int)) r → Ev (fun k => fringeref11_Check.l0 k p l i) r := fun {r f} h => by
      refine Ev.step (fun k => fringeref11_Check.l0.eq_2 _ _ _ k) (evp (by omega) (evp (by omega) ?_))
      rw [e, succ1 (by omega)]
      exact h
    rw [List.drop_eq_getElem_cons hlt]
    constructor
    · intro h
      have h0 := h l[i] List.mem_cons_self
      exact hs (f := fun _ => none) (evn (by omega) (evn (by omega) (h1 fun x hx => h x (List.mem_cons_of_mem _ hx))))
    · intro h
      refine hs (f := fun _ => none) ?_
      by_cases c1 : l[i] < 0
      · exact evp c1 (Ev.now _)
      by_cases c2 : l[i] ≥ p
      · exact evn c1 (evp c2 (Ev.now _))
      · exact evn c1 (evn c2 (h2 fun hh => h fun x hx => by
          rcases List.mem_cons.1 hx with rfl | hx
          · omega
          · exact hh x hx))
/-- What the checks come to, in both texts. -/
theorem check_all11 (a : Int) (l : List Int) : ∃ r, Ev (fun k => fourier_Check.f k a l) r ∧ Ev (fun k => fringeref11_Check.f k a l) r ∧ (r = 0 → ∃ p L, a = ((p : Nat) : Int) ∧ l = cl L ∧ Fit p L) := by
  have h1 : ∀ k, fourier_Check.f k a l = _ := fun k => fourier_Check.f.eq_1 k _ _
  have h2 : ∀ k, fringeref11_Check.f k a l = _ := fun k => fringeref11_Check.f.eq_1 k _ _
  by_cases hm : Mod a
  · have c1 := (ring_Check_ev a).1 hm
    have c2 := (refCheck_ev a).1 hm
    have j1 : Ev (fun k => fourier_Check.j0 k a l true) 4 := Ev.step (fun k => fourier_Check.j0.eq_2 _ _ _ k) (evp rfl (Ev.now _))
    have j2 : Ev (fun k => fringeref11_Check.j0 k a l true) 4 := Ev.step (fun k => fringeref11_Check.j0.eq_2 _ _ _ k) (evp rfl (Ev.now _))
    by_cases l0 : l.length = 0
    · exact ⟨4, Ev.congr h1 (Ev.bind c1 (evp rfl (evp (by omega) j1))), Ev.congr h2 (Ev.bind c2 (evp rfl (evp (by omega) j2))), fun h => by cases h⟩
    by_cases l64 : l.length > 64
    · refine ⟨4, Ev.congr h1 (Ev.bind c1 (evp rfl (evn (by omega) ?_))), Ev.congr h2 (Ev.bind c2 (evp rfl (evn (by omega) ?_))), fun h => by cases h⟩
      · rw [decide_eq_true (by omega)]; exact j1
      · rw [decide_eq_true (by omega)]; exact j2
    obtain ⟨p, rfl, hp2, hp⟩ := hm
    have hp0 := hp.1
    have e1 := pred1 hp0 hp2
    have s1 : ∀ {r}, Ev (fun k => if Int.tmod ((p - 1 : Nat) : Int) (l.length : Int) > 0 then some 6 else ((slices_Min_int64_int64.f k l).bind fun t106 => (if t106 < 0 then (some 8) else ((slices_Max_int64_int64.f k l).bind fun t107 => (if t107 ≥ (p : Int) then (some 8) else (some 0)))))) r → Ev (fun k => fourier_Check.f k p l) r := fun h => by
      refine Ev.congr h1 (Ev.bind c1 (evp rfl (evn (by omega) ?_)))
      rw [decide_eq_false (by omega)]
      refine Ev.step (fun k => fourier_Check.j0.eq_2 _ _ _ k) (evn (by decide) (evn (by omega) ?_))
      rw [e1]
      exact h
    have s2 : ∀ {r}, Ev (fun k => if Int.tmod ((p - 1 : Nat) : Int) (l.length : Int) = 0 then fringeref11_Check.l0 k p l 0 else some 6) r → Ev (fun k => fringeref11_Check.f k p l) r := fun h => by
      refine Ev.congr h2 (Ev.bind c2 (evp rfl (evn (by omega) ?_)))
      rw [decide_eq_false (by omega)]
      refine Ev.step (fun k => fringeref11_Check.j0.eq_2 _ _ _ k) (evn (by decide) (evn (by omega) ?_))
      rw [e1]
      exact h
    rw [tmodN] at s1 s2
    by_cases hd : (p - 1) % l.length = 0
    · obtain ⟨mi, m1, m2⟩ := Min_ev (l := l) (by omega) (by omega)
      obtain ⟨ma, n1, n2⟩ := Max_ev (l := l) (p : Int) (by omega) (by omega)
      have hr := rc_loop p l (by omega) l.length 0 (Nat.zero_add _)
      rw [List.drop_zero] at hr
      by_cases ok : ∀ x ∈ l, 0 ≤ x ∧ x < (p : Int)
      · refine ⟨0, s1 (evn (by omega) (Ev.bind m1 (evn (fun h => ?_) (Ev.bind n1 (evn (fun h => ?_) (Ev.now _)))))), s2 (evp (by omega) (hr.1 ok)), fun _ => ?_⟩
        · obtain ⟨x, hx, h0⟩ := m2.1 h; have := ok x hx; omega
        · obtain ⟨x, hx, h0⟩ := n2.1 h; have := ok x hx; omega
        · obtain ⟨L, rfl⟩ := exists_cl l (fun x hx => (ok x hx).1)
          rw [cl_length] at l0 l64 hd
          refine ⟨p, L, rfl, rfl, hp, hp2, Nat.pos_of_ne_zero l0, Nat.le_of_not_lt l64, Nat.dvd_of_mod_eq_zero hd, fun x hx => ?_⟩
          have := (ok (x : Int) (List.mem_map_of_mem hx)).2
          omega
      · refine ⟨8, s1 (evn (by omega) (Ev.bind m1 ?_)), s2 (evp (by omega) (hr.2 ok)), fun h => by cases h⟩
        by_cases c : mi < 0
        · exact evp c (Ev.now _)
        · refine evn c (Ev.bind n1 (evp (n2.2 ?_) (Ev.now _)))
          refine Classical.byContradiction fun hn => ok fun x hx => ⟨?_, ?_⟩
          · exact Int.not_lt.1 fun h => c (m2.2 ⟨x, hx, h⟩)
          · exact Int.not_le.1 fun h => hn ⟨x, hx, h⟩
    · have hpos : 0 < (p - 1) % l.length := Nat.pos_of_ne_zero hd
      exact ⟨6, s1 (evp (by omega) (Ev.now _)), s2 (evn (by omega) (Ev.now _)), fun h => by cases h⟩
  · exact ⟨2, Ev.congr h1 (Ev.bind ((ring_Check_ev a).2 hm) (evn (by decide) (Ev.now _))), Ev.congr h2 (Ev.bind ((refCheck_ev a).2 hm) (evn (by decide) (Ev.now _))), fun h => by cases h⟩
/-! the transform -/
noncomputable def rt (p n : Nat) : Nat := gen p ^ ((p - 1) / n) % p
noncomputable def iv (p n : Nat) : Nat := rt p n ^ (n - 1) % p
def pt (p n : Nat) : Nat := n ^ (p - 2) % p
noncomputable def bwd (p : Nat) (L : List Nat) : List Nat := tab L.length fun i => at_ (fwd p (iv p L.length) L) i * pt p L.length % p
theorem cl_tab (n : Nat) (f : Nat → Nat) : cl (tab n f) = (List.range n).map fun i => (f i : Int) := by simp [cl, tab]
theorem cl_set (n i v : Nat) (f : Nat → Nat) : (cl (tab n f)).set i (v : Int) = cl (tab n fun j => if j = i then v else f j) := by
  refine List.ext_getElem (by simp [cl, tab]) fun j h1 h2 => ?_
  rw [List.getElem_set]
  simp only [cl, tab, List.getElem_map, List.getElem_range]
  by_cases e : j = i
  · rw [if_pos e, if_pos e.symm]
  · rw [if_neg e, if_neg (fun h => e h.symm)]
theorem cl_zeros (n : Nat) : List.replicate n (0 : Int) = cl (tab n fun _ => 0) := by
  refine List.ext_getElem (by simp [cl, tab]) fun j h1 h2 => ?_
  simp [cl, tab]
section
variable {p : Nat} (hp : Pr p) (hp2 : p ≤ 2000000000)
include hp hp2
theorem tm {a : Int} {b : Nat} (h : a = (b : Int)) (hb : b ≤ 9000000000000000000) : Int.tmod (wrap64 a) (p : Int) = ((b % p : Nat) : Int) := by
  subst h
  rw [w64N (by omega), tmodN]
theorem rt_ord {n : Nat} (hn : 1 ≤ n) (hd : n ∣ p - 1) : Ord p (rt p n) n := root_ord hp (gen_ord hp) hn hd
theorem rt_lt (n : Nat) : rt p n < p := Nat.mod_lt _ (by have := hp.1; omega)
theorem iv_lt (n : Nat) : iv p n < p := Nat.mod_lt _ (by have := hp.1; omega)
theorem n_lt {n : Nat} (hn : 1 ≤ n) (hd : n ∣ p - 1) : n < p := by
  have := Nat.le_of_dvd (by have := hp.1; omega) hd
  have := hp.1
  omega
theorem rt_pos {n : Nat} (hn : 1 ≤ n) (hd : n ∣ p - 1) : 1 ≤ rt p n := by
  have h := ndvd hp (rt_ord hp hp2 hn hd)
  exact Nat.pos_of_ne_zero fun e => h (e ▸ Nat.dvd_zero p)
theorem iv_eq {n : Nat} (hn : 1 ≤ n) (hd : n ∣ p - 1) : rt p n ^ (p - 2) % p = iv p n := by
  have hO := rt_ord hp hp2 hn hd
  have h := ndvd hp hO
  have hp0 := hp.1
  exact inv_unique hp h (Nat.mod_lt _ (by omega)) (iv_lt hp hp2 n) (fermat_inv hp h) (inv_pow hp0 hO)
theorem ats_eq {w : Nat} (hw : w < p) : ∀ k, fourier_transform.ats p w k = ((w ^ k % p : Nat) : Int)
  | 0 => by rw [fourier_transform.ats, Nat.pow_zero, Nat.mod_eq_of_lt (by have := hp.1; omega)]; rfl
  | k + 1 => by
    have h1 := Nat.mod_lt (w ^ k) (show 0 < p by have := hp.1; omega)
    rw [fourier_transform.ats, ats_eq hw k, tm hp hp2 (b := w ^ k % p * w) (by simp) (Nat.le_trans (mul_lt h1 hw hp2) (by decide)), Nat.pow_succ]
    congr 1
    exact mmod (mm _ _) rfl
theorem horn_eq {t : Nat} (ht : t < p) : ∀ L : List Nat, (∀ x ∈ L, x < p) → fourier_transform.horn p t (cl L) = (hor p t L : Int) ∧ hor p t L < p
  | [], _ => ⟨rfl, by have := hp.1; show 0 < p; omega⟩
  | x :: L, h => by
    obtain ⟨e, hl⟩ := horn_eq ht L (fun y hy => h y (List.mem_cons_of_mem _ hy))
    have hx := h x List.mem_cons_self
    have hm := mul_lt hl ht hp2
    refine ⟨?_, Nat.mod_lt _ (by omega)⟩
    rw [cl_cons, fourier_transform.horn, e, hor]
    rw [show wrap64 ((hor p t L : Int) * (t : Int)) = ((hor p t L * t : Nat) : Int) by rw [mulN, w64N (by omega)]]
    exact tm hp hp2 (by simp) (by omega)
theorem oddf_eq {w : Nat} (hw : w < p) {L : List Nat} (hL : ∀ x ∈ L, x < p) : fourier_transform.oddf p w (cl L) = cl (fwd p w L) := by
  have e : fwd p w L = tab L.length fun k => hor p (w ^ k % p) L := by
    rw [← tab_at (fwd p w L), fwd_length]
    exact tab_congr fun k hk => fwd_hor hk
  rw [e, cl_tab, fourier_transform.oddf, cl_length]
  refine List.map_congr_left fun k hk => ?_
  rw [ats_eq hp hp2 hw, (horn_eq hp hp2 (Nat.mod_lt _ (by have := hp.1; omega)) L hL).1]
theorem xk_eq {w : Nat} (hw : w < p) {B : List Nat} (hB : ∀ x ∈ B, x < p) (k : Nat) : fourier_transform.xk p w (cl B) k = ((w ^ k % p * at_ B k % p : Nat) : Int) := by
  have hp0 := hp.1
  rw [fourier_transform.xk, ats_eq hp hp2 hw, cl_get]
  exact tm hp hp2 (by simp) (Nat.le_trans (mul_lt (Nat.mod_lt _ (by omega)) (at_lt hB (by omega) k) hp2) (by decide))
theorem lo_eq {w : Nat} (hw : w < p) {A B : List Nat} (hA : ∀ x ∈ A, x < p) (hB : ∀ x ∈ B, x < p) (k : Nat) : fourier_transform.lo p w (cl A) (cl B) k = (((at_ A k + w ^ k % p * at_ B k % p) % p : Nat) : Int) := by
  have hp0 := hp.1
  have h1 := at_lt hA (by omega) k
  have h2 := Nat.mod_lt (w ^ k % p * at_ B k) (show 0 < p by omega)
  rw [fourier_transform.lo, xk_eq hp hp2 hw hB, cl_get]
  exact tm hp hp2 (by simp) (by omega)
theorem hi_eq {w : Nat} (hw : w < p) {A B : List Nat} (hA : ∀ x ∈ A, x < p) (hB : ∀ x ∈ B, x < p) (k : Nat) : fourier_transform.hi p w (cl A) (cl B) k = (((at_ A k + p - w ^ k % p * at_ B k % p) % p : Nat) : Int) := by
  have hp0 := hp.1
  have h1 := at_lt hA (by omega) k
  have h2 := Nat.mod_lt (w ^ k % p * at_ B k) (show 0 < p by omega)
  rw [fourier_transform.hi, xk_eq hp hp2 hw hB, cl_get, w64 (x := (at_ A k : Int) - ((w ^ k % p * at_ B k % p : Nat) : Int)) (by omega) (by omega)]
  exact tm hp hp2 (by omega) (by omega)
theorem out_eq {w m : Nat} (hw : w < p) {A B : List Nat} (hA : ∀ x ∈ A, x < p) (hB : ∀ x ∈ B, x < p) : ∀ j, j ≤ m → fourier_transform.out p w (cl A) (cl B) m j =
    cl (tab (2 * m) fun i => if i < j then (at_ A i + w ^ i % p * at_ B i % p) % p else if m ≤ i ∧ i < m + j then (at_ A (i - m) + p - w ^ (i - m) % p * at_ B (i - m) % p) % p else 0)
  | 0, _ => by
    rw [fourier_transform.out, cl_zeros]
    congr 1
    refine tab_congr fun i _ => ?_
    rw [if_neg (by omega), if_neg (by omega)]
  | j + 1, h => by
    rw [fourier_transform.out, out_eq hw hA hB j (by omega), lo_eq hp hp2 hw hA hB, hi_eq hp hp2 hw hA hB, cl_set, cl_set]
    congr 1
    refine tab_congr fun i _ => ?_
    by_cases c1 : i = j + m
    · subst c1
      rw [if_pos rfl, if_neg (by omega), if_pos (by omega), Nat.add_sub_cancel]
    · rw [if_neg c1]
      by_cases c2 : i = j
      · subst c2
        rw [if_pos rfl, if_pos (by omega)]
      · rw [if_neg c2]
        by_cases c3 : i < j
        · rw [if_pos c3, if_pos (by omega)]
        · rw [if_neg c3, if_neg (show ¬ i < j + 1 by omega)]
          by_cases c4 : m ≤ i ∧ i < m + j
          · rw [if_pos c4, if_pos (show m ≤ i ∧ i < m + (j + 1) by omega)]
          · rw [if_neg c4, if_neg (show ¬ (m ≤ i ∧ i < m + (j + 1)) by omega)]
theorem tr_loop {w m : Nat} {L : List Nat} (hl : L.length = 2 * m) (hm : m ≤ 1000) {r : List Int} (hr : Ev (fun k => (fourier_transform.f k p (Int.tmod (wrap64 ((w : Int) * w)) p) (cl (evens L))).bind fun a => (fourier_transform.f k p (Int.tmod (wrap64 ((w : Int) * w)) p) (cl (odds L))).bind fun b => fourier_transform.fin [(p : Int)] ((2 * m : Nat) : Int) w a b) r) :
    ∀ (d j : Nat), j + d = m → Ev (fun k => fourier_transform.l0 k w (cl L) [(p : Int)] ((2 * m : Nat) : Int) (cl (tab j fun i => at_ L (2 * i))) (cl (tab j fun i => at_ L (2 * i + 1))) ((2 * j : Nat) : Int)) r := by
  have hp0 := hp.1
  intro d
  induction d with
  | zero =>
    intro j hj
    have : j = m := by omega
    subst this
    refine Ev.step (fun k => fourier_transform.l0.eq_2 _ _ _ _ _ _ _ k) (evn (by omega) (evp (by simp) ?_))
    rw [show rd [(p : Int)] 0 = (p : Int) from rfl]
    refine evn (by omega) ?_
    have e1 : evens L = tab j fun i => at_ L (2 * i) := by unfold evens; rw [hl, Nat.mul_div_cancel_left _ (by omega)]
    have e2 : odds L = tab j fun i => at_ L (2 * i + 1) := by unfold odds; rw [hl, Nat.mul_div_cancel_left _ (by omega)]
    rw [e1, e2] at hr
    exact hr
  | succ d ih =>
    intro j hj
    have ih := ih (j + 1) (by omega)
    refine Ev.step (fun k => fourier_transform.l0.eq_2 _ _ _ _ _ _ _ k) (evp (by omega) (evp (by omega) (evp (by rw [cl_length, hl]; omega) (Ev.bind (Ev.now _) (evp (by rw [cl_length, tab_length]; simp; omega) ?_)))))
    rw [succ1 (i := 2 * j) (by omega)]
    refine evp (by omega) (evp (by rw [cl_length, hl]; omega) (Ev.bind (Ev.now _) (evp (by rw [cl_length, tab_length]; simp; omega) ?_)))
    rw [cl_get, cl_get, show wrap64 (((2 * j : Nat) : Int) + 2) = ((2 * (j + 1) : Nat) : Int) by rw [w64 (by omega) (by omega)]; omega]
    rw [tab_succ, tab_succ, cl_append, cl_append] at ih
    exact ih
theorem transform_ev : ∀ (n : Nat) {w : Nat} {L : List Nat}, L.length = n → 1 ≤ n → n ≤ 1000 → (∀ x ∈ L, x < p) → w < p → Ord p w n → Ev (fun k => fourier_transform.f k p w (cl L)) (cl (fwd p w L)) := by
  have hp0 := hp.1
  intro n
  induction n using Nat.strongRecOn with
  | _ n ih =>
    intro w L hn h1 h2 hL hw hO
    by_cases hodd : n % 2 = 1
    · refine Ev.step (fun k => fourier_transform.f.eq_2 _ _ _ k) (evp (by rw [cl_length]; omega) (evn (by omega) (evp (by rw [cl_length]; omega) ?_)))
      rw [oddf_eq hp hp2 hw hL]
      exact Ev.now _
    · obtain ⟨m, rfl⟩ : ∃ m, n = 2 * m := ⟨n / 2, by omega⟩
      have hm : 1 ≤ m := by omega
      have hww : Int.tmod (wrap64 ((w : Int) * w)) (p : Int) = ((w * w % p : Nat) : Int) := tm hp hp2 (by simp) (Nat.le_trans (mul_lt hw hw hp2) (by decide))
      have le : (evens L).length = m := by rw [evens, tab_length, hn]; omega
      have lo : (odds L).length = m := by rw [odds, tab_length, hn]; omega
      have hE : ∀ x ∈ evens L, x < p := by
        intro x hx
        simp only [evens, tab, List.mem_map] at hx
        obtain ⟨i, _, rfl⟩ := hx
        exact at_lt hL (by omega) _
      have hD : ∀ x ∈ odds L, x < p := by
        intro x hx
        simp only [odds, tab, List.mem_map] at hx
        obtain ⟨i, _, rfl⟩ := hx
        exact at_lt hL (by omega) _
      have hq := ord_sq hp0 hm hO
      have hqlt := Nat.mod_lt (w * w) (show 0 < p by omega)
      have i1 := ih m (by omega) le hm (by omega) hE hqlt hq
      have i2 := ih m (by omega) lo hm (by omega) hD hqlt hq
      have hfin : fourier_transform.fin [(p : Int)] ((2 * m : Nat) : Int) w (cl (fwd p (w * w % p) (evens L))) (cl (fwd p (w * w % p) (odds L))) = some (cl (fwd p w L)) := by
        unfold fourier_transform.fin
        rw [cl_length, cl_length, fwd_length, fwd_length, le, lo, if_pos ⟨rfl, by omega, hm, by omega⟩, show rd [(p : Int)] 0 = (p : Int) from rfl,
          out_eq hp hp2 hw (fwd_lt (by omega) _) (fwd_lt (by omega) _) m (Nat.le_refl m)]
        congr 2
        refine eq_of_at (by rw [tab_length, fwd_length, hn]) fun i hi => ?_
        rw [tab_length] at hi
        rw [at_tab _ hi]
        by_cases c : i < m
        · rw [if_pos c, fwd_low hn c]
        · rw [if_neg c, if_pos (by omega)]
          have := fwd_high hp hn hO (k := i - m) (by omega)
          rw [show i - m + m = i by omega] at this
          exact this.symm
      have hd : wrap64 (((cl L).length : Int) / 2) = (m : Int) := by rw [cl_length, hn, w64 (by omega) (by omega)]; omega
      refine Ev.step (fun k => fourier_transform.f.eq_2 _ _ _ k) (evn (by rw [cl_length]; omega) ?_)
      rw [hd, cl_length, hn]
      refine evp (by omega) (evp (by omega) ?_)
      have h := tr_loop hp hp2 (w := w) hn (by omega) (r := cl (fwd p w L)) (by
        rw [hww]
        refine Ev.bind i1 (Ev.bind i2 ?_)
        rw [hfin]
        exact Ev.now _) m 0 (Nat.zero_add _)
      exact h
end
/-- The checks of what is valid. -/
theorem check_ok {p : Nat} {L : List Nat} (h : Fit p L) : Ev (fun k => fourier_Check.f k p (cl L)) 0 ∧ Ev (fun k => fringeref11_Check.f k p (cl L)) 0 := by
  have hm : Mod (p : Int) := ⟨p, rfl, h.le, h.pr⟩
  have hp0 := h.pr.1
  have e1 := pred1 hp0 h.le
  have hl0 := h.pos
  have hl1 := h.len
  have hok : ∀ x ∈ cl L, 0 ≤ x ∧ x < (p : Int) := by
    intro x hx
    simp only [cl, List.mem_map] at hx
    obtain ⟨y, hy, rfl⟩ := hx
    have := h.lt y hy
    omega
  have hd : Int.tmod ((p - 1 : Nat) : Int) ((cl L).length : Int) = 0 := by rw [cl_length, tmodN, Nat.mod_eq_zero_of_dvd h.dvd]; rfl
  constructor
  · obtain ⟨mi, m1, m2⟩ := Min_ev (l := cl L) (by rw [cl_length]; omega) (by rw [cl_length]; omega)
    obtain ⟨ma, n1, n2⟩ := Max_ev (l := cl L) (p : Int) (by rw [cl_length]; omega) (by rw [cl_length]; omega)
    refine Ev.congr (fun k => fourier_Check.f.eq_1 k _ _) (Ev.bind ((ring_Check_ev p).1 hm) (evp rfl (evn (by rw [cl_length]; omega) ?_)))
    rw [decide_eq_false (by rw [cl_length]; omega)]
    refine Ev.step (fun k => fourier_Check.j0.eq_2 _ _ _ k) (evn (by decide) (evn (by rw [cl_length]; omega) ?_))
    rw [e1, hd]
    refine evn (by decide) (Ev.bind m1 (evn (fun hh => ?_) (Ev.bind n1 (evn (fun hh => ?_) (Ev.now _)))))
    · obtain ⟨x, hx, h0⟩ := m2.1 hh; have := hok x hx; omega
    · obtain ⟨x, hx, h0⟩ := n2.1 hh; have := hok x hx; omega
  · refine Ev.congr (fun k => fringeref11_Check.f.eq_1 k _ _) (Ev.bind ((refCheck_ev p).1 hm) (evp rfl (evn (by rw [cl_length]; omega) ?_)))
    rw [decide_eq_false (by rw [cl_length]; omega)]
    refine Ev.step (fun k => fringeref11_Check.j0.eq_2 _ _ _ k) (evn (by decide) (evn (by rw [cl_length]; omega) ?_))
    rw [e1, hd]
    have hr := (rc_loop p (cl L) (by rw [cl_length]; omega) (cl L).length 0 (Nat.zero_add _)).1
    rw [List.drop_zero] at hr
    exact evp rfl (hr hok)
/-! roots and their powers -/
section
variable {p : Nat} {L : List Nat} (h : Fit p L)
include h
theorem root_ev : Ev (fun k => fourier_root.f k p (cl L)) (rt p L.length : Int) := by
  refine Ev.congr (fun k => fourier_root.f.eq_1 k _ _) ?_
  rw [cl_length]
  exact Ev.bind (Root_ev h.pr h.le h.pos h.dvd).1 (Ev.now _)
theorem fit_ord : Ord p (rt p L.length) L.length := rt_ord h.pr h.le h.pos h.dvd
end
theorem pow_loop {p w n : Nat} (hp : Pr p) (hp2 : p ≤ 2000000000) (hw : w < p) (hn : n ≤ 1000) : ∀ (d j : Nat), j + 1 + d = n → Ev (fun k => fringeref11_powers.l0 k p w n (cl (tab (j + 1) fun i => w ^ i % p))) (cl (tab n fun i => w ^ i % p)) := by
  have hp0 := hp.1
  intro d
  induction d with
  | zero =>
    intro j hj
    have : n = j + 1 := by omega
    subst this
    exact Ev.step (fun k => fringeref11_powers.l0.eq_2 _ _ _ _ k) (evn (by rw [cl_length, tab_length]; omega) (Ev.now _))
  | succ d ih =>
    intro j hj
    have ih := ih (j + 1) (by omega)
    have hl : (cl (tab (j + 1) fun i => w ^ i % p)).length = j + 1 := by rw [cl_length, tab_length]
    have e : wrap64 (((cl (tab (j + 1) fun i => w ^ i % p)).length : Int) - 1) = (j : Int) := by rw [hl, w64 (by omega) (by omega)]; omega
    refine Ev.step (fun k => fringeref11_powers.l0.eq_2 _ _ _ _ k) ?_
    rw [e, hl]
    refine evp (by omega) (evp (by omega) (evp (by omega) (evn (by omega) (evp (by omega) ?_))))
    rw [cl_get, at_tab _ (by omega)]
    have hlt := Nat.mod_lt (w ^ j) (show 0 < p by omega)
    rw [tm hp hp2 (b := w ^ j % p * w) (by simp) (Nat.le_trans (mul_lt hlt hw hp2) (by decide))]
    rw [tab_succ, cl_append] at ih
    have e2 : w ^ j % p * w % p = w ^ (j + 1) % p := by rw [Nat.pow_succ]; exact mmod (mm _ _) rfl
    rw [e2]
    exact ih
theorem refroot_ev {p n : Nat} (hp : Pr p) (hp2 : p ≤ 2000000000) (hn : 1 ≤ n) (hn2 : n ≤ 1000) (hd : n ∣ p - 1) : Ev (fun k => fringeref11_root.f k p n) (cl (tab n fun i => rt p n ^ i % p)) := by
  have hp0 := hp.1
  refine Ev.congr (fun k => fringeref11_root.f.eq_1 k _ _) (Ev.bind (Root_ev hp hp2 hn hd).2 (Ev.bind ?_ (Ev.now _)))
  refine Ev.congr (fun k => fringeref11_powers.f.eq_1 k _ _ _) ?_
  have h := pow_loop hp hp2 (rt_lt hp hp2 n) hn2 (n - 1) 0 (by omega)
  have e : cl (tab (0 + 1) fun i => rt p n ^ i % p) = [1] := by
    show [((rt p n ^ 0 % p : Nat) : Int)] = [1]
    rw [Nat.pow_zero, Nat.mod_eq_of_lt (by omega)]
    rfl
  rw [e] at h
  exact h
theorem at_ev {a : Int} {n : Nat} (hn : 1 ≤ n) (hn2 : n ≤ 1000000) (h0 : -4000000000000 ≤ a) (h1 : a ≤ 4000000000000) : fringeref11_at.f a n = some (a % (n : Int)) := by
  have hb : 0 < (n : Int) := by omega
  have e1 := Int.mul_tdiv_add_tmod a n
  have e2 := Int.tmod_lt_of_pos a hb
  have e3 := Int.tmod_lt_of_pos (-a) hb
  rw [Int.neg_tmod] at e3
  unfold fringeref11_at.f
  rw [if_neg (by omega)]
  have key : ∀ r q : Int, (n : Int) * q + r = a → 0 ≤ r → r < n → a % n = r := fun r q e h0 h1 => by
    rw [← e, Int.add_comm, Int.add_mul_emod_self_left]
    exact Int.emod_eq_of_lt h0 h1
  by_cases c : Int.tmod a n < 0
  · rw [if_pos c, w64 (by omega) (by omega)]
    congr 1
    refine (key _ (Int.tdiv a n - 1) ?_ (by omega) (by omega)).symm
    rw [Int.mul_sub]
    omega
  · rw [if_neg c]
    exact congrArg some (key _ _ e1 (by omega) e2).symm
/-! the reference's sums -/
section
variable {p : Nat} (hp : Pr p) (hp2 : p ≤ 2000000000) {L W : List Nat} (hL : ∀ x ∈ L, x < p) (hW : ∀ x ∈ W, x < p) {n : Nat} (hn : L.length = n) (hWn : W.length = n) (h1 : 1 ≤ n) (h2 : n ≤ 1000)
include hp hp2 hL hW hn hWn h1 h2
/-- The index that the sums take. -/
def ix (n : Nat) (b : Bool) (j k : Nat) : Nat := if b then (((-((j * k : Nat) : Int)) % (n : Int))).toNat else j * k % n
theorem ix_lt (b : Bool) (j k : Nat) : ix n b j k < n := by
  unfold ix
  split
  · have := Int.emod_lt_of_pos (-((j * k : Nat) : Int)) (show (0 : Int) < n by omega)
    omega
  · exact Nat.mod_lt _ (by omega)
theorem sums_inner (b : Bool) {out : List Int} {k : Nat} (hk : k < n) {r : List Int} (hout : out.length ≤ 1000) (hr : Ev (fun f => fringeref11_sums.l0 f p (cl L) b n (cl W) (out ++ [((S n (fun j => at_ L j * at_ W (ix n b j k)) % p : Nat) : Int)]) ((k + 1 : Nat) : Int)) r) :
    ∀ (m j : Nat), j + m = n → Ev (fun f => fringeref11_sums.l1 f p (cl L) b n (cl W) out k ((S j (fun j => at_ L j * at_ W (ix n b j k)) % p : Nat) : Int) j) r := by
  have hp0 := hp.1
  intro m
  induction m with
  | zero =>
    intro j hj
    have : j = n := by omega
    subst this
    refine Ev.step (fun k => fringeref11_sums.l1.eq_2 _ _ _ _ _ _ _ _ _ k) (evn (by omega) (evp (by omega) ?_))
    rw [succ1 (by omega)]
    exact hr
  | succ m ih =>
    intro j hj
    have ih := ih (j + 1) (by omega)
    have hjk : j * k ≤ 1000 * 1000 := Nat.mul_le_mul (by omega) (by omega)
    have hix := ix_lt hp hp2 hL hW hn hWn h1 h2 b j k
    have hs := Nat.mod_lt (S j (fun j => at_ L j * at_ W (ix n b j k))) (show 0 < p by omega)
    have hm := mul_lt (at_lt hL (by omega) j) (at_lt hW (by omega) (ix n b j k)) hp2
    have hmul : wrap64 ((j : Int) * (k : Int)) = ((j * k : Nat) : Int) := by rw [mulN, w64N (by omega)]
    have hstep : Int.tmod (wrap64 (((S j (fun j => at_ L j * at_ W (ix n b j k)) % p : Nat) : Int) + wrap64 (rd (cl L) (j : Int) * rd (cl W) ((ix n b j k : Nat) : Int)))) (p : Int) = ((S (j + 1) (fun j => at_ L j * at_ W (ix n b j k)) % p : Nat) : Int) := by
      rw [cl_get, cl_get, mulN, w64N (by omega), tm hp hp2 (b := S j (fun j => at_ L j * at_ W (ix n b j k)) % p + at_ L j * at_ W (ix n b j k)) (by simp) (by omega), S_succ]
      congr 1
      exact amod (mm _ _) rfl
    refine Ev.step (fun k => fringeref11_sums.l1.eq_2 _ _ _ _ _ _ _ _ _ k) (evp (by omega) ?_)
    rw [hmul]
    cases b with
    | true =>
      have e : fringeref11_at.f (wrap64 (-((j * k : Nat) : Int))) (n : Int) = some ((ix n true j k : Nat) : Int) := by
        rw [w64 (by omega) (by omega), at_ev h1 (by omega) (by omega) (by omega)]
        have := Int.emod_nonneg (-((j * k : Nat) : Int)) (show (n : Int) ≠ 0 by omega)
        simp only [ix, if_true]
        congr 1
        omega
      refine evp rfl (evp (by omega) (evp (by rw [cl_length, hn]; omega) ?_))
      rw [e]
      refine Ev.bind (Ev.now _) (evp (by omega) (evp (by rw [cl_length, hWn]; omega) (evn (by omega) ?_)))
      rw [hstep, succ1 (by omega)]
      exact ih
    | false =>
      have e : fringeref11_at.f ((j * k : Nat) : Int) (n : Int) = some ((ix n false j k : Nat) : Int) := by
        rw [at_ev h1 (by omega) (by omega) (by omega)]
        simp [ix]
      refine evn (by decide) (evp (by omega) (evp (by rw [cl_length, hn]; omega) ?_))
      rw [e]
      refine Ev.bind (Ev.now _) (evp (by omega) (evp (by rw [cl_length, hWn]; omega) (evn (by omega) ?_)))
      rw [hstep, succ1 (by omega)]
      exact ih
theorem sums_outer (b : Bool) : ∀ (m k : Nat), k + m = n → Ev (fun f => fringeref11_sums.l0 f p (cl L) b n (cl W) (cl (tab k fun k => S n (fun j => at_ L j * at_ W (ix n b j k)) % p)) k) (cl (tab n fun k => S n (fun j => at_ L j * at_ W (ix n b j k)) % p)) := by
  intro m
  induction m with
  | zero =>
    intro k hk
    have : k = n := by omega
    subst this
    exact Ev.step (fun f => fringeref11_sums.l0.eq_2 _ _ _ _ _ _ _ f) (evn (by omega) (Ev.now _))
  | succ m ih =>
    intro k hk
    have ih := ih (k + 1) (by omega)
    rw [tab_succ, cl_append] at ih
    have h := sums_inner hp hp2 hL hW hn hWn h1 h2 b (show k < n by omega) (by rw [cl_length, tab_length]; omega) ih n 0 (Nat.zero_add _)
    exact Ev.step (fun f => fringeref11_sums.l0.eq_2 _ _ _ _ _ _ _ f) (evp (by omega) h)
end
theorem ix_back {p w n : Nat} (hp : Pr p) (hO : Ord p w n) (j k : Nat) : w ^ ix n true j k % p = (w ^ (n - 1) % p) ^ (j * k) % p := by
  have hn := hO.1
  rw [pow_mod_pow]
  refine pow_cong hp.1 hO ?_
  have h0 := Int.emod_nonneg (-((j * k : Nat) : Int)) (show (n : Int) ≠ 0 by omega)
  have h1 := Int.emod_lt_of_pos (-((j * k : Nat) : Int)) (show (0 : Int) < n by omega)
  have e : ((ix n true j k : Nat) : Int) = (-((j * k : Nat) : Int)) % (n : Int) := by simp only [ix, if_true]; omega
  have e3 : (((n - 1) * (j * k) : Nat) : Int) = -((j * k : Nat) : Int) + (n : Int) * ((j * k : Nat) : Int) := by
    rw [Int.natCast_mul, Int.natCast_sub hn, Int.sub_mul]
    omega
  have e4 : (((n - 1) * (j * k) % n : Nat) : Int) = ((ix n true j k : Nat) : Int) := by
    rw [e, Int.natCast_emod, e3, Int.add_mul_emod_self_left]
  have e5 : ix n true j k % n = ix n true j k := Nat.mod_eq_of_lt (by omega)
  omega
section
variable {p : Nat} {L : List Nat} (h : Fit p L)
include h
theorem sums_ev (b : Bool) : Ev (fun k => fringeref11_sums.f k p (cl L) b) (cl (fwd p (if b then iv p L.length else rt p L.length) L)) := by
  have hp0 := h.pr.1
  have hO := fit_ord h
  have hl := h.len
  refine Ev.congr (fun k => fringeref11_sums.f.eq_1 k _ _ _) ?_
  rw [cl_length]
  have hW : ∀ x ∈ tab L.length (fun i => rt p L.length ^ i % p), x < p := by
    intro x hx
    simp only [tab, List.mem_map] at hx
    obtain ⟨i, _, rfl⟩ := hx
    exact Nat.mod_lt _ (by omega)
  refine Ev.bind (refroot_ev h.pr h.le h.pos (by omega) h.dvd) ?_
  have key := sums_outer h.pr h.le h.lt hW rfl (tab_length _ _) h.pos (by omega) b L.length 0 (Nat.zero_add _)
  have e : tab L.length (fun k => S L.length (fun j => at_ L j * at_ (tab L.length (fun i => rt p L.length ^ i % p)) (ix L.length b j k)) % p) = fwd p (if b then iv p L.length else rt p L.length) L := by
    unfold fwd
    refine tab_congr fun k hk => S_mod fun j hj => ?_
    rw [at_tab _ (ix_lt h.pr h.le h.lt hW rfl (tab_length _ _) h.pos (by omega) b j k)]
    refine mmod rfl ((mm _ _).trans ?_)
    cases b with
    | true => exact ix_back h.pr hO j k
    | false => exact pow_mod_n hp0 hO (j * k)
  rw [e] at key
  exact key
theorem fwd_ev : Ev (fun k => fourier_transform.f k p ((rt p L.length : Nat) : Int) (cl L)) (cl (fwd p (rt p L.length) L)) := by
  have := h.len
  exact transform_ev h.pr h.le L.length rfl h.pos (by omega) h.lt (rt_lt h.pr h.le _) (fit_ord h)
theorem fwd_iv : Ev (fun k => fourier_transform.f k p ((iv p L.length : Nat) : Int) (cl L)) (cl (fwd p (iv p L.length) L)) := by
  have := h.len
  exact transform_ev h.pr h.le L.length rfl h.pos (by omega) h.lt (iv_lt h.pr h.le _) (ord_inv h.pr (fit_ord h))
theorem lenmod : ((cl L).length : Int) % (p : Int) = ((L.length : Nat) : Int) := by
  have := n_lt h.pr h.le h.pos h.dvd
  rw [cl_length]
  exact Int.emod_eq_of_lt (by omega) (by omega)
theorem Inv_root : Ev (fun k => ring_Inv.f k p (rt p L.length)) ((iv p L.length : Int), 0) := by
  rw [← iv_eq h.pr h.le h.pos h.dvd]
  exact (ring_Inv_ev h.pr h.le (rt_pos h.pr h.le h.pos h.dvd) (rt_lt h.pr h.le _)).1
theorem Inv_len : Ev (fun k => ring_Inv.f k p ((L.length : Nat) : Int)) ((pt p L.length : Int), 0) ∧ Ev (fun k => fringeref10_Inv.f k p ((L.length : Nat) : Int)) ((pt p L.length : Int), 0) :=
  ring_Inv_ev h.pr h.le h.pos (n_lt h.pr h.le h.pos h.dvd)
end
section
variable {p : Nat} (hp : Pr p) (hp2 : p ≤ 2000000000) {A : List Nat} (hA : ∀ x ∈ A, x < p) (hl : A.length ≤ 1000) {c : Nat} (hc : c < p)
include hp hp2 hA hl hc
theorem scale_step (i : Nat) (hi : i < A.length) : (cl (tab A.length fun j => if j < i then at_ A j * c % p else at_ A j)).set i (Int.tmod (wrap64 (rd (cl (tab A.length fun j => if j < i then at_ A j * c % p else at_ A j)) (i : Int) * (c : Int))) (p : Int)) = cl (tab A.length fun j => if j < i + 1 then at_ A j * c % p else at_ A j) := by
  have hp0 := hp.1
  rw [cl_get, at_tab _ hi, if_neg (Nat.lt_irrefl _), tm hp hp2 (b := at_ A i * c) (by simp) (Nat.le_trans (mul_lt (at_lt hA (by omega) i) hc hp2) (by decide)), cl_set]
  congr 1
  refine tab_congr fun j hj => ?_
  by_cases e : j = i
  · subst e
    rw [if_pos rfl, if_pos (by omega)]
  · rw [if_neg e]
    by_cases e2 : j < i
    · rw [if_pos e2, if_pos (by omega)]
    · rw [if_neg e2, if_neg (by omega)]
theorem back_loop : ∀ (m i : Nat), i + m = A.length → Ev (fun k => fourier_back.l0 k p c (cl (tab A.length fun j => if j < i then at_ A j * c % p else at_ A j)) (A.length : Int) i) (cl (tab A.length fun j => at_ A j * c % p)) := by
  have hp0 := hp.1
  intro m
  induction m with
  | zero =>
    intro i hi
    have : i = A.length := by omega
    subst this
    refine Ev.step (fun k => fourier_back.l0.eq_2 _ _ _ _ _ k) (evn (by omega) ?_)
    rw [tab_congr (g := fun j => at_ A j * c % p) (fun j hj => if_pos hj)]
    exact Ev.now _
  | succ m ih =>
    intro i hi
    have ih := ih (i + 1) (by omega)
    refine Ev.step (fun k => fourier_back.l0.eq_2 _ _ _ _ _ k) (evp (by omega) (evp (by omega) (evp (by rw [cl_length, tab_length]; omega) (evn (by omega) ?_))))
    rw [Int.toNat_natCast, scale_step hp hp2 hA hl hc i (by omega), succ1 (by omega)]
    exact ih
theorem rback_loop : ∀ (m i : Nat), i + m = A.length → Ev (fun k => fringeref11_Back.l0 k p (cl (tab A.length fun j => if j < i then at_ A j * c % p else at_ A j)) c i) (cl (tab A.length fun j => at_ A j * c % p), 0) := by
  have hp0 := hp.1
  intro m
  induction m with
  | zero =>
    intro i hi
    have : i = A.length := by omega
    subst this
    refine Ev.step (fun k => fringeref11_Back.l0.eq_2 _ _ _ _ k) (evn (by rw [cl_length, tab_length]; omega) ?_)
    rw [tab_congr (g := fun j => at_ A j * c % p) (fun j hj => if_pos hj)]
    exact Ev.now _
  | succ m ih =>
    intro i hi
    have ih := ih (i + 1) (by omega)
    refine Ev.step (fun k => fringeref11_Back.l0.eq_2 _ _ _ _ k) (evp (by rw [cl_length, tab_length]; omega) (evp (by omega) (evn (by omega) ?_)))
    rw [Int.toNat_natCast, scale_step hp hp2 hA hl hc i (by omega), succ1 (by omega)]
    exact ih
end
section
variable {p : Nat} {L : List Nat} (h : Fit p L)
include h
theorem back_ev : Ev (fun k => fourier_back.f k p (cl L)) (cl (bwd p L)) := by
  have hp0 := h.pr.1
  have hl := h.len
  refine Ev.congr (fun k => fourier_back.f.eq_1 k _ _) (Ev.bind (root_ev h) (Ev.bind (Inv_root h) (evn (by omega) ?_)))
  rw [lenmod h]
  refine Ev.bind (Inv_len h).1 (Ev.bind (fwd_iv h) ?_)
  have key := back_loop h.pr h.le (fwd_lt (by omega) (w := iv p L.length) L) (by rw [fwd_length]; omega) (c := pt p L.length) (Nat.mod_lt _ (by omega)) _ 0 (Nat.zero_add _)
  rw [tab_congr (g := at_ (fwd p (iv p L.length) L)) (fun j hj => if_neg (Nat.not_lt_zero j)), tab_at] at key
  rw [cl_length]
  have e : (tab (fwd p (iv p L.length) L).length fun j => at_ (fwd p (iv p L.length) L) j * pt p L.length % p) = bwd p L := by unfold bwd; rw [fwd_length]
  rw [e] at key
  exact key
theorem forward_ev : Ev (fun k => fourier_Forward.f k p (cl L)) (cl (fwd p (rt p L.length) L), 0) :=
  Ev.congr (fun k => fourier_Forward.f.eq_1 k _ _) (Ev.bind (check_ok h).1 (evp rfl (Ev.bind (root_ev h) (Ev.bind (fwd_ev h) (Ev.now _)))))
theorem rforward_ev : Ev (fun k => fringeref11_Forward.f k p (cl L)) (cl (fwd p (rt p L.length) L), 0) :=
  Ev.congr (fun k => fringeref11_Forward.f.eq_1 k _ _) (Ev.bind (check_ok h).2 (evp rfl (Ev.bind (sums_ev h false) (Ev.now _))))
theorem Back_ev : Ev (fun k => fourier_Back.f k p (cl L)) (cl (bwd p L), 0) :=
  Ev.congr (fun k => fourier_Back.f.eq_1 k _ _) (Ev.bind (check_ok h).1 (evp rfl (Ev.bind (back_ev h) (Ev.now _))))
theorem rBack_ev : Ev (fun k => fringeref11_Back.f k p (cl L)) (cl (bwd p L), 0) := by
  have hp0 := h.pr.1
  have hl := h.len
  refine Ev.congr (fun k => fringeref11_Back.f.eq_1 k _ _) (Ev.bind (check_ok h).2 (evp rfl (Ev.bind (sums_ev h true) (evn (by omega) ?_))))
  rw [lenmod h]
  refine Ev.bind (Inv_len h).2 ?_
  have key := rback_loop h.pr h.le (fwd_lt (by omega) (w := iv p L.length) L) (by rw [fwd_length]; omega) (c := pt p L.length) (Nat.mod_lt _ (by omega)) _ 0 (Nat.zero_add _)
  rw [tab_congr (g := at_ (fwd p (iv p L.length) L)) (fun j hj => if_neg (Nat.not_lt_zero j)), tab_at] at key
  have e : (tab (fwd p (iv p L.length) L).length fun j => at_ (fwd p (iv p L.length) L) j * pt p L.length % p) = bwd p L := by unfold bwd; rw [fwd_length]
  rw [e] at key
  exact key
theorem bwd_length : (bwd p L).length = L.length := tab_length _ _
theorem bwd_lt : ∀ x ∈ bwd p L, x < p := by
  intro x hx
  simp only [bwd, tab, List.mem_map] at hx
  obtain ⟨i, _, rfl⟩ := hx
  exact Nat.mod_lt _ (by have := h.pr.1; omega)
theorem Fit.other {M : List Nat} (hl : M.length = L.length) (hM : ∀ x ∈ M, x < p) : Fit p M := ⟨h.pr, h.le, by rw [hl]; exact h.pos, by rw [hl]; exact h.len, by rw [hl]; exact h.dvd, hM⟩
theorem Fit.fwd (w : Nat) : Fit p (fwd p w L) := Fit.other h (fwd_length _ _ _) (fwd_lt (by have := h.pr.1; omega) _)
theorem Fit.bwd : Fit p (bwd p L) := Fit.other h (bwd_length h) (bwd_lt h)
end
end Go.Proofs.Ytbopgopggnagpaa.FL
/- Convolutions: what the program's and the reference's loops come to, for every input. -/
set_option linter.unusedVariables false
set_option linter.unusedSimpArgs false
set_option linter.unusedSectionVars false
namespace Go.Proofs.Ytbopgopggnagpaa.FL
open Go Go.RowKit Go.Proofs.Ytbopgopggnagpaa.PAll Go.Proofs.YtbopgopggnagpaaW.PrintWords Go.Proofs.YtbopgopggnagpaaW.PrintLast RM FM Go.Proofs.Ytbopgopggnagpaa.RL

theorem conv_lt {p : Nat} (hp : 0 < p) (A B : List Nat) : ∀ x ∈ conv p A B, x < p := by
  intro x hx
  simp only [conv, tab, List.mem_map] at hx
  obtain ⟨i, _, rfl⟩ := hx
  exact Nat.mod_lt _ hp
theorem Fit.conv {p : Nat} {A : List Nat} (hA : Fit p A) (B : List Nat) : Fit p (conv p A B) := Fit.other hA (conv_length _ _ _) (conv_lt (by have := hA.pr.1; omega) _ _)
end Go.Proofs.Ytbopgopggnagpaa.FL
/- Turns, phases and signed numbers: what the program's and the reference's loops come to, for every input. -/
set_option linter.unusedVariables false
set_option linter.unusedSimpArgs false
set_option linter.unusedSectionVars false
namespace Go.Proofs.Ytbopgopggnagpaa.FL
open Go Go.RowKit Go.Proofs.Ytbopgopggnagpaa.PAll Go.Proofs.YtbopgopggnagpaaW.PrintWords Go.Proofs.YtbopgopggnagpaaW.PrintLast RM FM Go.Proofs.Ytbopgopggnagpaa.RL

/-- A number's remainder. -/
def rmd (d : Int) (n : Nat) : Nat := (d % (n : Int)).toNat
/-! turns -/
section
variable {p : Nat} {L : List Nat} (h : Fit p L)
include h
/-! phases -/
def phase (p w d : Nat) (L : List Nat) : List Nat := tab L.length fun k => at_ L k * (w ^ (d * k) % p) % p
/-! signed numbers -/
def sg (p x : Nat) : Int := if p < 2 * x then (x : Int) - p else x
def sgn (p : Nat) (L : List Nat) : List Int := L.map (sg p)
theorem sg_eq {x : Nat} (hx : x < p) : fringeref11_Center.f p x = some (sg p x) := by
  have := h.le
  unfold fringeref11_Center.f sg
  rw [w64 (x := 2 * (x : Int)) (by omega) (by omega)]
  by_cases c : p < 2 * x
  · rw [if_pos (by omega), if_pos c, w64 (by omega) (by omega)]
  · rw [if_neg (by omega), if_neg c]
theorem Signed_loop : ∀ (m i : Nat), i + m = L.length → Ev (fun k => fourier_Signed.l0 k p ((sgn p L).take i ++ (cl L).drop i) (L.length : Int) i) (sgn p L, 0) := by
  have hp0 := h.pr.1
  have hl := h.len
  have hle := h.le
  have hsl : (sgn p L).length = L.length := List.length_map _
  intro m
  induction m with
  | zero =>
    intro i hi
    have : i = L.length := by omega
    subst this
    refine Ev.step (fun k => fourier_Signed.l0.eq_2 _ _ _ _ k) (evn (by omega) ?_)
    rw [List.take_of_length_le (by omega), List.drop_eq_nil_of_le (by rw [cl_length]; omega), List.append_nil]
    exact Ev.now _
  | succ m ih =>
    intro i hi
    have ih := ih (i + 1) (by omega)
    have hi2 : i < L.length := by omega
    have htl : ((sgn p L).take i).length = i := by rw [List.length_take]; omega
    have hx : L[i] < p := h.lt _ (List.getElem_mem hi2)
    have hd : (cl L).drop i = (L[i] : Int) :: (cl L).drop (i + 1) := by rw [List.drop_eq_getElem_cons (by rw [cl_length]; exact hi2)]; simp [cl]
    have hts : (sgn p L).take (i + 1) = (sgn p L).take i ++ [sg p L[i]] := by
      rw [List.take_add_one, List.getElem?_eq_getElem (by omega)]; simp [sgn]
    have hrd : rd ((sgn p L).take i ++ (cl L).drop i) (i : Int) = (L[i] : Int) := by
      rw [hd]
      simp [rd, List.getD_eq_getElem?_getD, List.getElem?_append_right, htl]
    have hset : ∀ v : Int, ((sgn p L).take i ++ (cl L).drop i).set i v = (sgn p L).take i ++ v :: (cl L).drop (i + 1) := fun v => by
      rw [hd, List.set_append_right _ _ (by omega), htl, Nat.sub_self]; rfl
    refine Ev.step (fun k => fourier_Signed.l0.eq_2 _ _ _ _ k) (evp (by omega) (evp (by omega) (evp (by rw [List.length_append, htl, List.length_drop, cl_length]; omega) ?_)))
    have hdv : wrap64 (Int.tdiv (p : Int) 2) = ((p / 2 : Nat) : Int) := by rw [show (2 : Int) = ((2 : Nat) : Int) from rfl, tdivN, w64N (by omega)]
    rw [hrd, hdv, Int.toNat_natCast, hset, succ1 (by omega)]
    rw [hts, List.append_assoc] at ih
    by_cases c : p < 2 * L[i]
    · refine evp (by omega) ?_
      rw [w64 (by omega) (by omega)]
      have e : sg p L[i] = (L[i] : Int) - p := if_pos c
      rw [e] at ih
      exact ih
    · refine evn (by omega) ?_
      have e : sg p L[i] = (L[i] : Int) := if_neg c
      rw [e] at ih
      rw [hd]
      exact ih
theorem Signed_ev : Ev (fun k => fourier_Signed.f k p (cl L)) (sgn p L, 0) := by
  have hl := h.len
  refine Ev.congr (fun k => fourier_Signed.f.eq_1 k _ _) (Ev.bind (check_ok h).1 (evp rfl ?_))
  have hc : slices_Clone_int64_int64.f (cl L) = some (cl L) := by
    unfold slices_Clone_int64_int64.f
    rw [Option.bind_some, if_pos (by rw [cl_length]; simp; omega)]
    rfl
  rw [hc]
  refine Ev.bind (Ev.now _) ?_
  rw [cl_length]
  exact Signed_loop h L.length 0 (Nat.zero_add _)
end
end Go.Proofs.Ytbopgopggnagpaa.FL
/- Correlation by transforms: sums of whole numbers, turned lists, products of spectra. No program in sight. -/
set_option linter.unusedVariables false
set_option linter.unusedSimpArgs false
namespace CX
open RM FM

def Z (n : Nat) (f : Nat → Int) : Int := match n with
  | 0 => 0
  | n + 1 => Z n f + f n
/-! turned lists -/
def rv (A : List Nat) : List Nat := tab A.length fun u => at_ A ((A.length - u) % A.length)
/-- The correlation of two lists, going around. -/
def crr (p : Nat) (A B : List Nat) : List Nat := tab A.length fun l => S A.length (fun v => at_ A v * at_ B ((v + l) % A.length)) % p
/-- The product of two spectra. -/
def psp (p : Nat) (X Y : List Nat) : List Nat := tab X.length fun k => at_ X ((X.length - k) % X.length) * at_ Y k % p
end CX
set_option linter.unusedVariables false
set_option linter.unusedSectionVars false
set_option linter.unusedSimpArgs false
/- Fringe search: the sums of products, the turned sums, the cells and which one is best, over lists of integers. No program in sight. -/
namespace SM

def okd (x : Int) : Prop := x = 0 ∨ x = -3 ∨ x = -1 ∨ x = 1 ∨ x = 3
def str (l : List Int) : Prop := l.length ≤ 256 ∧ ∀ x ∈ l, okd x
theorem str_get {l : List Int} (h : str l) (k : Nat) : okd (l.getD k 0) := by
  by_cases hk : k < l.length
  · simp only [List.getD_eq_getElem?_getD, List.getElem?_eq_getElem hk, Option.getD_some]
    exact h.2 _ (List.getElem_mem hk)
  · simp only [List.getD_eq_getElem?_getD, List.getElem?_eq_none (Nat.le_of_not_lt hk), Option.getD_none]
    exact .inl rfl
theorem okd_mul {a b : Int} (ha : okd a) (hb : okd b) : -9 ≤ a * b ∧ a * b ≤ 9 := by
  rcases ha with rfl | rfl | rfl | rfl | rfl <;> rcases hb with rfl | rfl | rfl | rfl | rfl <;> decide
section
variable (x y : List Int) (d : Int)
def pr (k : Nat) : Int := if 0 ≤ (k : Int) + d ∧ (k : Int) + d < y.length then x.getD k 0 * y.getD ((k : Int) + d).toNat 0 else 0
theorem pr_bound (hx : str x) (hy : str y) (k : Nat) : -9 ≤ pr x y d k ∧ pr x y d k ≤ 9 := by
  unfold pr
  split
  · exact okd_mul (str_get hx _) (str_get hy _)
  · omega
variable (st : Nat)
def S (t : Nat) : Nat → Int
  | 0 => 0
  | k + 1 => S t k + if k / st % 4 = t then pr x y d k else 0
theorem S_bound (hx : str x) (hy : str y) (t n : Nat) : -9 * (n : Int) ≤ S x y d st t n ∧ S x y d st t n ≤ 9 * (n : Int) := by
  induction n with
  | zero => simp [S]
  | succ n ih =>
    have := pr_bound x y d hx hy n
    rw [S]
    split <;> omega
end
def Tz (q a b : Int) : Int × Int := if q % 4 = 0 then (a, b) else if q % 4 = 1 then (-b, a) else if q % 4 = 2 then (-a, -b) else (b, -a)
def V (r : Int) (s : Nat → Int) : Int × Int := if r = 0 then (s 0 + s 1 + s 2 + s 3, 0) else if r = 1 then (s 0 - s 2, s 3 - s 1) else if r = 2 then (s 0 - s 1 + s 2 - s 3, 0) else (s 0 - s 2, s 1 - s 3)
section
variable (x y : List Int) (d : Int) (st : Nat) (r : Int)
def W : Nat → Int × Int
  | 0 => (0, 0)
  | k + 1 => ((W k).1 + (Tz (-r * ((k / st : Nat) : Int)) (pr x y d k) 0).1, (W k).2 + (Tz (-r * ((k / st : Nat) : Int)) (pr x y d k) 0).2)
end
def pw (v : Int × Int) : Int := v.1 * v.1 + v.2 * v.2
end SM
set_option linter.unusedVariables false
set_option linter.unusedSectionVars false
/- The sum and the count of a lag. No program in sight. -/
namespace SM
section
variable (x y : List Int) (d : Int)
def tot : Nat → Int
  | 0 => 0
  | k + 1 => tot k + pr x y d k
def cnt : Nat → Int
  | 0 => 0
  | k + 1 => cnt k + if pr x y d k = 0 then 0 else 1
end
end SM
set_option linter.unusedVariables false
set_option linter.unusedSectionVars false
set_option linter.unusedSimpArgs false
namespace Go.Proofs.Ytbopgopggnagpaa.LG
open Go Go.RowKit Go.Proofs.Ytbopgopggnagpaa.PAll Go.Proofs.YtbopgopggnagpaaW.PrintWords Go.Proofs.YtbopgopggnagpaaW.PrintLast SM

theorem evp {α : Type} {c : Prop} [Decidable c] {g f : Nat → Option α} {r : α} (h : c) (e : Ev g r) : Ev (fun k => if c then g k else f k) r := Ev.congr (fun k => if_pos h) e
theorem evn {α : Type} {c : Prop} [Decidable c] {g f : Nat → Option α} {r : α} (h : ¬ c) (e : Ev f r) : Ev (fun k => if c then g k else f k) r := Ev.congr (fun k => if_neg h) e
theorem w64 {x : Int} (h0 : -9223372036854775808 ≤ x) (h1 : x ≤ 9223372036854775807) : wrap64 x = x := by unfold wrap64; omega
theorem succ1 {i : Nat} (hi : i ≤ 4000000000) : wrap64 ((i : Int) + 1) = ((i + 1 : Nat) : Int) := by
  rw [w64 (by omega) (by omega)]; rfl
theorem rdD (l : List Int) (k : Nat) : rd l (k : Int) = l.getD k 0 := by simp [rd]
def chk (l : List Int) : Int := if (l.length : Int) > 256 then 4 else if l.all sample_okd then 0 else 8
theorem okd_iff (x : Int) : sample_okd x = true ↔ okd x := by
  unfold sample_okd okd
  simp [or_assoc]
theorem chk_str {l : List Int} (h : chk l = 0) : str l := by
  unfold chk at h
  split at h
  · omega
  · rename_i h1
    split at h
    · rename_i h2
      exact ⟨by omega, fun x hx => (okd_iff x).1 (List.all_eq_true.1 h2 x hx)⟩
    · omega
theorem sample_Check_eq (l : List Int) : sample_Check.f l = some (chk l) := rfl
abbrev SL := S55
def lagE (x y : List Int) (d : Int) (n : Nat) : SL := ⟨tot x y d n, cnt x y d n⟩
def lagL (x y : List Int) (most : Nat) : Nat → List SL
  | 0 => []
  | j + 1 => lagL x y most j ++ [lagE x y ((j : Int) - most) x.length]
section
variable {x y : List Int} {d : Int} (hx : str x) (hy : str y) (hd : -1000 ≤ d ∧ d ≤ 1000)
include hx hy hd
end
end Go.Proofs.Ytbopgopggnagpaa.LG
set_option linter.unusedVariables false
set_option linter.unusedSectionVars false
namespace Go.Proofs.Ytbopgopggnagpaa.LG
open Go Go.RowKit Go.Proofs.Ytbopgopggnagpaa.PAll Go.Proofs.YtbopgopggnagpaaW.PrintWords Go.Proofs.YtbopgopggnagpaaW.PrintLast SM

theorem Digit_eq (x : Int) : ∃ d, fringeref13_Digit.f x = some d ∧ (d < 0 ↔ ¬ sample_okd x = true) := by
  rw [okd_iff]
  unfold fringeref13_Digit.f okd
  by_cases h0 : x = 0
  · exact ⟨0, if_pos h0, by omega⟩
  rw [if_neg h0]
  by_cases h1 : x = -3
  · exact ⟨1, if_pos h1, by omega⟩
  rw [if_neg h1]
  by_cases h2 : x = -1
  · exact ⟨2, if_pos h2, by omega⟩
  rw [if_neg h2]
  by_cases h3 : x = 1
  · exact ⟨3, if_pos h3, by omega⟩
  rw [if_neg h3]
  by_cases h4 : x = 3
  · exact ⟨4, if_pos h4, by omega⟩
  rw [if_neg h4]
  exact ⟨-1, rfl, by omega⟩
theorem refCheck_loop (l : List Int) (hl : l.length ≤ 256) : ∀ (m i : Nat), i + m = l.length → Ev (fun k => fringeref13_Check.l0 k l i) (if (l.drop i).all sample_okd then 0 else 8) := by
  intro m
  induction m with
  | zero =>
    intro i hi
    refine Ev.step (fun k => fringeref13_Check.l0.eq_2 _ _ k) ?_
    rw [List.drop_eq_nil_of_le (by omega)]
    exact evn (by omega) (Ev.now 0)
  | succ m ih =>
    intro i hi
    have hlt : i < l.length := by omega
    refine Ev.step (fun k => fringeref13_Check.l0.eq_2 _ _ k) ?_
    refine evp (by omega) (evp (by omega) ?_)
    obtain ⟨d, e, hd⟩ := Digit_eq (rd l i)
    rw [e, succ1 (by omega)]
    have hr : rd l i = l[i] := by rw [rdD]; simp [hlt]
    rw [hr] at hd
    rw [List.drop_eq_getElem_cons hlt, List.all_cons]
    refine Ev.bind (Ev.now d) ?_
    by_cases hneg : d < 0
    · have := hd.1 hneg
      rw [Bool.eq_false_iff.2 this]
      exact evp hneg (Ev.now 8)
    · have : sample_okd l[i] = true := by
        rcases Bool.eq_false_or_eq_true (sample_okd l[i]) with h | h
        · exact h
        · exact absurd (hd.2 (by rw [h]; decide)) hneg
      rw [this]
      exact evn hneg (ih (i + 1) (by omega))
theorem refCheck_ev (l : List Int) : Ev (fun k => fringeref13_Check.f k l) (chk l) := by
  refine Ev.congr (fun k => fringeref13_Check.f.eq_1 k _) ?_
  unfold chk
  by_cases h : (l.length : Int) > 256
  · rw [if_pos h]; exact evp h (Ev.now 4)
  · rw [if_neg h]; exact evn h (refCheck_loop l (by omega) l.length 0 (Nat.zero_add _))
end Go.Proofs.Ytbopgopggnagpaa.LG
/- Spectra, their products and values: what the program's and the reference's loops come to. -/
set_option linter.unusedVariables false
set_option linter.unusedSimpArgs false
set_option linter.unusedSectionVars false
namespace Go.Proofs.Ytbopgopggnagpaa.XS
open Go Go.RowKit Go.Proofs.Ytbopgopggnagpaa.PAll Go.Proofs.YtbopgopggnagpaaW.PrintWords Go.Proofs.YtbopgopggnagpaaW.PrintLast RM FM Go.Proofs.Ytbopgopggnagpaa.RL Go.Proofs.Ytbopgopggnagpaa.FL CX
open Go.Proofs.Ytbopgopggnagpaa.LG (chk chk_str okd_iff sample_Check_eq refCheck_ev)

theorem pr7681 : Pr 7681 := by
  have key : ∀ d : Nat, d < 88 → 7681 % d = 0 → d = 1 := by decide
  refine ⟨by omega, fun d hd => ?_⟩
  obtain ⟨e, he⟩ := hd
  by_cases h : d < 88
  · exact .inl (key d h (by rw [he, Nat.mul_mod_right]))
  · have h2 : e < 88 := by
      refine Nat.lt_of_not_le fun h3 => ?_
      have := Nat.mul_le_mul (show 88 ≤ d by omega) h3
      omega
    have := key e h2 (by rw [he, Nat.mul_mod_left])
    subst this
    exact .inr (by omega)
theorem fit7681 {L : List Nat} (hl : L.length = 64) (h : ∀ x ∈ L, x < 7681) : Fit 7681 L := ⟨pr7681, by omega, by omega, by omega, by rw [hl]; decide, h⟩
def en (s : List Int) (i : Nat) : Nat := if i < s.length then (s.getD i 0 % 7681).toNat else 0
theorem en_lt (s : List Int) (i : Nat) : en s i < 7681 := by unfold en; split <;> omega
def enc (s : List Int) : List Nat := tab 64 (en s)
theorem enc_length (s : List Int) : (enc s).length = 64 := tab_length _ _
theorem fit_enc (s : List Int) : Fit 7681 (enc s) := by
  refine fit7681 (enc_length s) fun x hx => ?_
  simp only [enc, tab, List.mem_map] at hx
  obtain ⟨i, _, rfl⟩ := hx
  exact en_lt s i
noncomputable def W : Nat := rt 7681 64
noncomputable def spc (s : List Int) : List Nat := fwd 7681 W (enc s)
theorem spc_length (s : List Int) : (spc s).length = 64 := by rw [spc, fwd_length, enc_length]
theorem spc_ev (s : List Int) : Ev (fun k => fourier_Forward.f k 7681 (cl (enc s))) (cl (spc s), 0) := by
  have h := forward_ev (fit_enc s)
  rw [enc_length] at h
  exact h
theorem rspc_ev (s : List Int) : Ev (fun k => fringeref11_Forward.f k 7681 (cl (enc s))) (cl (spc s), 0) := by
  have h := rforward_ev (fit_enc s)
  rw [enc_length] at h
  exact h
def small (s : List Int) : Prop := s.length ≤ 32 ∧ ∀ i, i < s.length → -3 ≤ s.getD i 0 ∧ s.getD i 0 ≤ 3
theorem rdG (s : List Int) (i : Nat) : rd s (i : Int) = s.getD i 0 := by simp [rd]
theorem spectrum_loop {s : List Int} (hs : small s) : ∀ (m i : Nat), i + m = s.length → Ev (fun k => cross_spectrum.l0 k (cl (tab 64 fun j => if j < i then en s j else 0)) s (s.length : Int) i) (cl (spc s)) := by
  have h32 := hs.1
  intro m
  induction m with
  | zero =>
    intro i hi
    have : i = s.length := by omega
    subst this
    refine Ev.step (fun k => cross_spectrum.l0.eq_2 _ _ _ _ k) (evn (by omega) ?_)
    have e : (tab 64 fun j => if j < s.length then en s j else 0) = enc s := tab_congr fun j _ => by
      unfold en
      split <;> rfl
    rw [e]
    exact Ev.bind (spc_ev s) (Ev.now _)
  | succ m ih =>
    intro i hi
    have ih := ih (i + 1) (by omega)
    obtain ⟨b0, b1⟩ := hs.2 i (by omega)
    refine Ev.step (fun k => cross_spectrum.l0.eq_2 _ _ _ _ k) (evp (by omega) (evp (by omega) (evp (by omega) (evp (by rw [cl_length, tab_length]; omega) ?_))))
    have e : Int.tmod (wrap64 (rd s i + 7681)) 7681 = ((en s i : Nat) : Int) := by
      rw [rdG, w64 (by omega) (by omega), Int.tmod_eq_emod_of_nonneg (by omega), en, if_pos (by omega)]
      omega
    rw [e, Int.toNat_natCast, cl_set, succ1 (by omega)]
    have e2 : (tab 64 fun j => if j = i then en s i else if j < i then en s j else 0) = tab 64 fun j => if j < i + 1 then en s j else 0 := tab_congr fun j _ => by
      by_cases c : j = i
      · subst c
        rw [if_pos rfl, if_pos (by omega)]
      · rw [if_neg c]
        by_cases c2 : j < i
        · rw [if_pos c2, if_pos (by omega)]
        · rw [if_neg c2, if_neg (by omega)]
    rw [e2]
    exact ih
theorem spectrum_ev {s : List Int} (hs : small s) : Ev (fun k => cross_spectrum.f k s) (cl (spc s)) := by
  refine Ev.congr (fun k => cross_spectrum.f.eq_1 k _) (evp (by decide) ?_)
  rw [cl_zeros]
  have h := spectrum_loop hs s.length 0 (Nat.zero_add _)
  have e : (tab 64 fun j => if j < 0 then en s j else 0) = tab 64 fun _ => 0 := tab_congr fun j _ => if_neg (Nat.not_lt_zero _)
  rw [e] at h
  exact h
theorem rspectrum_loop {s : List Int} (hs : small s) : ∀ (m i : Nat), i + m = 64 → Ev (fun k => fringeref17_Spectrum.l0 k s (cl (tab i (en s))) i) (cl (spc s), 0) := by
  have h32 := hs.1
  intro m
  induction m with
  | zero =>
    intro i hi
    have : i = 64 := by omega
    subst this
    exact Ev.step (fun k => fringeref17_Spectrum.l0.eq_2 _ _ _ k) (evn (by omega) (Ev.bind (rspc_ev s) (Ev.now _)))
  | succ m ih =>
    intro i hi
    have ih := ih (i + 1) (by omega)
    rw [tab_succ, cl_append] at ih
    refine Ev.step (fun k => fringeref17_Spectrum.l0.eq_2 _ _ _ k) (evp (by omega) ?_)
    by_cases c : i < s.length
    · obtain ⟨b0, b1⟩ := hs.2 i c
      have e : fringeref17_element.f (rd s i) = some ((en s i : Nat) : Int) := by
        unfold fringeref17_element.f
        rw [rdG, en, if_pos c]
        split
        · rw [w64 (by omega) (by omega)]; congr 1; omega
        · congr 1; omega
      rw [e]
      refine evp (by omega) (evp (by omega) (Ev.bind (Ev.now _) (evp (by rw [cl_length, tab_length]; omega) ?_)))
      rw [succ1 (by omega)]
      exact ih
    · have e : en s i = 0 := if_neg c
      rw [e] at ih
      refine evn (by omega) (evp (by rw [cl_length, tab_length]; omega) ?_)
      rw [succ1 (by omega)]
      exact ih
theorem chk_small {s : List Int} (h : chk s = 0) (h2 : s.length ≤ 32) : small s := by
  refine ⟨h2, fun i hi => ?_⟩
  have h3 := SM.str_get (chk_str h) i
  unfold SM.okd at h3
  omega
theorem Spectrum_all (s : List Int) : ∃ x e, Ev (fun k => cross_Spectrum.f k s) (x, e) ∧ Ev (fun k => fringeref17_Spectrum.f k s) (x, e) ∧ x.length ≤ 1000 := by
  by_cases h0 : chk s = 0
  · by_cases h1 : (s.length : Int) > 32
    · exact ⟨[], 4, Ev.congr (fun k => cross_Spectrum.f.eq_1 k _) (by rw [sample_Check_eq]; exact Ev.bind (Ev.now _) (evp h0 (evp h1 (Ev.now _)))), Ev.congr (fun k => fringeref17_Spectrum.f.eq_1 k _) (Ev.bind (refCheck_ev s) (evp h0 (evp h1 (Ev.now _)))), by simp⟩
    · have hs := chk_small h0 (by omega)
      exact ⟨cl (spc s), 0, Ev.congr (fun k => cross_Spectrum.f.eq_1 k _) (by rw [sample_Check_eq]; exact Ev.bind (Ev.now _) (evp h0 (evn h1 (Ev.bind (spectrum_ev hs) (Ev.now _))))), Ev.congr (fun k => fringeref17_Spectrum.f.eq_1 k _) (Ev.bind (refCheck_ev s) (evp h0 (evn h1 (rspectrum_loop hs 64 0 (Nat.zero_add _))))), by rw [cl_length, spc_length]; omega⟩
  · exact ⟨[], chk s, Ev.congr (fun k => cross_Spectrum.f.eq_1 k _) (by rw [sample_Check_eq]; exact Ev.bind (Ev.now _) (evn h0 (Ev.now _))), Ev.congr (fun k => fringeref17_Spectrum.f.eq_1 k _) (Ev.bind (refCheck_ev s) (evn h0 (Ev.bind (refCheck_ev s) (Ev.now _)))), by simp⟩
/-! valid lists -/
theorem Valid_loop (l : List Int) (hl : l.length ≤ 2000000) : ∀ (m i : Nat), i + m = l.length → (∃ b, Ev (fun k => fringeref17_Valid.l0 k l i) b ∧ (b = true ↔ ((∀ x ∈ l.drop i, 0 ≤ x ∧ x < 7681) ∧ l.length = 64))) := by
  intro m
  induction m with
  | zero =>
    intro i hi
    refine ⟨_, Ev.step (fun k => fringeref17_Valid.l0.eq_2 _ _ k) (evn (by omega) (Ev.now _)), ?_⟩
    rw [List.drop_eq_nil_of_le (by omega)]
    simp
    omega
  | succ m ih =>
    intro i hi
    obtain ⟨b, h1, h2⟩ := ih (i + 1) (by omega)
    have hd : l.drop i = l[i] :: l.drop (i + 1) := List.drop_eq_getElem_cons (by omega)
    have hr : rd l (i : Int) = l[i] := by rw [rdG, List.getD_eq_getElem?_getD, List.getElem?_eq_getElem (by omega)]; rfl
    by_cases c1 : l[i] < 0
    · refine ⟨false, Ev.step (fun k => fringeref17_Valid.l0.eq_2 _ _ k) (evp (by omega) (evp (by omega) (evp (by rw [hr]; exact c1) (Ev.now _)))), ?_⟩
      rw [hd]
      refine ⟨fun h => absurd h (by decide), ?_⟩
      rintro ⟨h, _⟩
      have := h l[i] (List.mem_cons_self ..)
      omega
    · by_cases c2 : l[i] ≥ 7681
      · refine ⟨false, Ev.step (fun k => fringeref17_Valid.l0.eq_2 _ _ k) (evp (by omega) (evp (by omega) (evn (by rw [hr]; exact c1) (evp (by rw [hr]; exact c2) (Ev.now _))))), ?_⟩
        rw [hd]
        refine ⟨fun h => absurd h (by decide), ?_⟩
        rintro ⟨h, _⟩
        have := h l[i] (List.mem_cons_self ..)
        omega
      · refine ⟨b, Ev.step (fun k => fringeref17_Valid.l0.eq_2 _ _ k) (evp (by omega) (evp (by omega) (evn (by rw [hr]; exact c1) (evn (by rw [hr]; exact c2) ?_)))), ?_⟩
        · rw [succ1 (by omega)]
          exact h1
        · rw [h2, hd]
          simp only [List.mem_cons, forall_eq_or_imp]
          constructor
          · rintro ⟨h, h'⟩; exact ⟨⟨⟨by omega, by omega⟩, h⟩, h'⟩
          · rintro ⟨⟨_, h⟩, h'⟩; exact ⟨h, h'⟩
def vld (l : List Int) : Prop := (∀ x ∈ l, 0 ≤ x ∧ x < 7681) ∧ l.length = 64
theorem vld_cl {l : List Int} (h : vld l) : ∃ L, l = cl L ∧ Fit 7681 L ∧ L.length = 64 := by
  obtain ⟨L, rfl⟩ := exists_cl l (fun x hx => (h.1 x hx).1)
  have hl : L.length = 64 := by rw [← cl_length]; exact h.2
  refine ⟨L, rfl, fit7681 hl fun x hx => ?_, hl⟩
  have := (h.1 (x : Int) (List.mem_map.2 ⟨x, hx, rfl⟩)).2
  omega
open Classical in
theorem valid_all (l : List Int) (hl : l.length ≤ 2000000) : Ev (fun k => cross_valid.f k l) (decide (vld l)) ∧ Ev (fun k => fringeref17_Valid.f k l) (decide (vld l)) := by
  constructor
  · by_cases h : (l.length : Int) = 64
    · obtain ⟨r, c1, _, c3⟩ := check_all11 7681 l
      have hr : (r == 0) = decide (vld l) := by
        by_cases h0 : r = 0
        · obtain ⟨p, L, hp, rfl, hf⟩ := c3 h0
          obtain rfl : p = 7681 := by omega
          have : vld (cl L) := ⟨fun x hx => by
            obtain ⟨y, hy, rfl⟩ := List.mem_map.1 hx
            have := hf.lt y hy
            omega, by omega⟩
          simp [h0, this]
        · have : ¬ vld l := fun hv => by
            obtain ⟨L, rfl, hf, _⟩ := vld_cl hv
            obtain ⟨K, hK⟩ := c1
            obtain ⟨K', hK'⟩ := (check_ok hf).1
            have e1 := hK (K + K') (by omega)
            have e2 := hK' (K + K') (by omega)
            have e3 := e1.symm.trans e2
            exact h0 (by simpa using e3)
          simp [h0, this]
      rw [← hr]
      exact Ev.congr (fun k => cross_valid.f.eq_1 k _) (evp h (Ev.bind c1 (Ev.now _)))
    · have : ¬ vld l := fun hv => h (by rw [hv.2]; rfl)
      rw [decide_eq_false this]
      exact Ev.congr (fun k => cross_valid.f.eq_1 k _) (evn h (Ev.now _))
  · obtain ⟨b, h1, h2⟩ := Valid_loop l hl l.length 0 (Nat.zero_add _)
    have e : b = decide (vld l) := by
      rw [List.drop_zero] at h2
      by_cases hv : vld l
      · rw [decide_eq_true hv]; exact h2.2 hv
      · rw [decide_eq_false hv]
        exact Bool.eq_false_iff.2 fun hb => hv (h2.1 hb)
    rw [← e]
    exact Ev.congr (fun k => fringeref17_Valid.f.eq_1 k _) h1
/-! products -/
theorem psp_eq {A B : List Nat} (hA : A.length = 64) : psp 7681 A B = tab 64 fun k => at_ A ((64 - k) % 64) * at_ B k % 7681 := by
  unfold psp
  rw [hA]
theorem tm7 {a b : Nat} (ha : a < 7681) (hb : b < 7681) : Int.tmod (wrap64 ((a : Int) * (b : Int))) 7681 = ((a * b % 7681 : Nat) : Int) :=
  tm (p := 7681) pr7681 (by omega) (b := a * b) (by simp) (by have := Nat.mul_le_mul (Nat.le_of_lt ha) (Nat.le_of_lt hb); omega)
section
variable {A B : List Nat} (hA : Fit 7681 A) (hB : Fit 7681 B) (h1 : A.length = 64) (h2 : B.length = 64)
include hA hB h1 h2
theorem at_lt' {L : List Nat} (h : Fit 7681 L) (i : Nat) : at_ L i < 7681 := by
  unfold at_
  rw [List.getD_eq_getElem?_getD]
  cases e : L[i]? with
  | none => simp
  | some v => exact h.lt v (List.mem_of_getElem? e)
theorem product_loop : ∀ (m i : Nat), i + m = 64 → Ev (fun k => cross_product.l0 k (cl A) (cl (tab i fun k => at_ A ((64 - k) % 64) * at_ B k % 7681)) (cl B) 64 i) (cl (psp 7681 A B)) := by
  intro m
  induction m with
  | zero =>
    intro i hi
    have : i = 64 := by omega
    subst this
    rw [psp_eq h1]
    exact Ev.step (fun k => cross_product.l0.eq_2 _ _ _ _ _ k) (evn (by omega) (Ev.now _))
  | succ m ih =>
    intro i hi
    have ih := ih (i + 1) (by omega)
    rw [tab_succ, cl_append] at ih
    have e : Int.tmod (wrap64 (64 - (i : Int))) 64 = (((64 - i) % 64 : Nat) : Int) := by
      rw [w64 (by omega) (by omega), Int.tmod_eq_emod_of_nonneg (by omega)]
      omega
    refine Ev.step (fun k => cross_product.l0.eq_2 _ _ _ _ _ k) ?_
    rw [e]
    refine evp (by omega) (evp (by omega) (evp (by rw [cl_length]; omega) (evp (by omega) (evp (by rw [cl_length]; omega) (evp (by rw [cl_length, tab_length]; omega) ?_)))))
    rw [cl_get, cl_get, tm7 (at_lt' hA hB h1 h2 hA _) (at_lt' hA hB h1 h2 hB _), succ1 (by omega)]
    exact ih
theorem product_ev : Ev (fun k => cross_product.f k (cl A) (cl B)) (cl (psp 7681 A B)) := by
  refine Ev.congr (fun k => cross_product.f.eq_1 k _ _) ?_
  rw [cl_length, h2]
  exact product_loop hA hB h1 h2 64 0 (Nat.zero_add _)
theorem rproduct_loop : ∀ (m i : Nat), i + m = 64 → 1 ≤ i → Ev (fun k => fringeref17_Product.l0 k (cl A) (cl B) (cl (tab i fun k => at_ A ((64 - k) % 64) * at_ B k % 7681)) i) (cl (psp 7681 A B), 0) := by
  intro m
  induction m with
  | zero =>
    intro i hi _
    have : i = 64 := by omega
    subst this
    rw [psp_eq h1]
    exact Ev.step (fun k => fringeref17_Product.l0.eq_2 _ _ _ _ k) (evn (by omega) (Ev.now _))
  | succ m ih =>
    intro i hi hi1
    have ih := ih (i + 1) (by omega) (by omega)
    rw [tab_succ, cl_append] at ih
    have e : wrap64 (64 - (i : Int)) = (((64 - i) % 64 : Nat) : Int) := by
      rw [w64 (by omega) (by omega)]
      omega
    refine Ev.step (fun k => fringeref17_Product.l0.eq_2 _ _ _ _ k) ?_
    rw [e]
    refine evp (by omega) (evp (by omega) (evp (by rw [cl_length]; omega) (evp (by omega) (evp (by rw [cl_length]; omega) (evp (by rw [cl_length, tab_length]; omega) ?_)))))
    rw [cl_get, cl_get, tm7 (at_lt' hA hB h1 h2 hA _) (at_lt' hA hB h1 h2 hB _), succ1 (by omega)]
    exact ih
end
noncomputable def vls (L : List Nat) : List Int := sgn 7681 (bwd 7681 L)
theorem vls_length {L : List Nat} (h : Fit 7681 L) (h1 : L.length = 64) : (vls L).length = 64 := by
  unfold vls sgn
  rw [List.length_map, bwd_length h, h1]
theorem values_ev {L : List Nat} (h : Fit 7681 L) : Ev (fun k => cross_values.f k (cl L)) (vls L) :=
  Ev.congr (fun k => cross_values.f.eq_1 k _) (Ev.bind (Back_ev h) (Ev.bind (Signed_ev (Fit.bwd h)) (Ev.now _)))
theorem rvalues_loop {L : List Nat} (h : Fit 7681 L) : ∀ (m i : Nat), i + m = L.length → Ev (fun k => fringeref17_Values.l0 k (cl L) ((sgn 7681 L).take i) i) (sgn 7681 L, 0) := by
  have hl := h.len
  have hsl : (sgn 7681 L).length = L.length := List.length_map _
  intro m
  induction m with
  | zero =>
    intro i hi
    rw [List.take_of_length_le (by omega)]
    exact Ev.step (fun k => fringeref17_Values.l0.eq_2 _ _ _ k) (evn (by rw [cl_length]; omega) (Ev.now _))
  | succ m ih =>
    intro i hi
    have ih := ih (i + 1) (by omega)
    have hi2 : i < L.length := by omega
    have hts : (sgn 7681 L).take (i + 1) = (sgn 7681 L).take i ++ [sg 7681 L[i]] := by
      rw [List.take_add_one, List.getElem?_eq_getElem (by omega)]; simp [sgn]
    rw [hts] at ih
    have hr : rd (cl L) (i : Int) = (L[i] : Int) := by
      rw [cl_get]; simp [at_, List.getD_eq_getElem?_getD, hi2]
    refine Ev.step (fun k => fringeref17_Values.l0.eq_2 _ _ _ k) (evp (by rw [cl_length]; omega) (evp (by omega) ?_))
    rw [hr]
    have hc := sg_eq h (h.lt _ (List.getElem_mem hi2))
    rw [show ((7681 : Nat) : Int) = 7681 from rfl] at hc
    rw [hc]
    refine Ev.bind (Ev.now _) (evp (by rw [List.length_take]; omega) ?_)
    rw [succ1 (by omega)]
    exact ih
open Classical in
theorem Product_all (a b : List Int) (ha : a.length ≤ 2000000) (hb : b.length ≤ 2000000) : ∃ x e, Ev (fun k => cross_Product.f k a b) (x, e) ∧ Ev (fun k => fringeref17_Product.f k a b) (x, e) ∧ x.length ≤ 1000 := by
  obtain ⟨a1, a2⟩ := valid_all a ha
  obtain ⟨b1, b2⟩ := valid_all b hb
  by_cases h1 : vld a
  · rw [decide_eq_true h1] at a1 a2
    by_cases h2 : vld b
    · rw [decide_eq_true h2] at b1 b2
      obtain ⟨A, rfl, hA, lA⟩ := vld_cl h1
      obtain ⟨B, rfl, hB, lB⟩ := vld_cl h2
      refine ⟨_, _, Ev.congr (fun k => cross_Product.f.eq_1 k _ _) (Ev.bind a1 (evp rfl (Ev.bind b1 (evp rfl (Ev.bind (product_ev hA hB lA lB) (Ev.now _)))))), Ev.congr (fun k => fringeref17_Product.f.eq_1 k _ _) (Ev.bind a2 (evp rfl (Ev.bind b2 (Ev.step (fun k => fringeref17_Product.j0.eq_2 _ _ _ k) (evn (by decide) ?_))))), by rw [cl_length, psp_eq lA, tab_length]; omega⟩
      have h := rproduct_loop hA hB lA lB 63 1 (by omega) (by omega)
      have e : cl (tab 1 fun k => at_ A ((64 - k) % 64) * at_ B k % 7681) = [Int.tmod (wrap64 (rd (cl A) 0 * rd (cl B) 0)) 7681] := by
        have h0 : rd (cl A) 0 = ((at_ A 0 : Nat) : Int) := cl_get A 0
        have h0' : rd (cl B) 0 = ((at_ B 0 : Nat) : Int) := cl_get B 0
        rw [h0, h0', tm7 (at_lt' hA hB lA lB hA _) (at_lt' hA hB lA lB hB _)]
        simp [tab, cl]
      rw [e] at h
      exact evp (by rw [cl_length]; omega) (evp (by rw [cl_length]; omega) (Ev.bind (Ev.now _) h))
    · rw [decide_eq_false h2] at b1 b2
      exact ⟨[], 8, Ev.congr (fun k => cross_Product.f.eq_1 k _ _) (Ev.bind a1 (evp rfl (Ev.bind b1 (evn (by decide) (Ev.now _))))), Ev.congr (fun k => fringeref17_Product.f.eq_1 k _ _) (Ev.bind a2 (evp rfl (Ev.bind b2 (Ev.step (fun k => fringeref17_Product.j0.eq_2 _ _ _ k) (evp (by decide) (Ev.now _)))))), by simp⟩
  · rw [decide_eq_false h1] at a1 a2
    exact ⟨[], 8, Ev.congr (fun k => cross_Product.f.eq_1 k _ _) (Ev.bind a1 (evn (by decide) (Ev.now _))), Ev.congr (fun k => fringeref17_Product.f.eq_1 k _ _) (Ev.bind a2 (evn (by decide) (Ev.step (fun k => fringeref17_Product.j0.eq_2 _ _ _ k) (evp rfl (Ev.now _))))), by simp⟩
open Classical in
theorem Values_all (a : List Int) (ha : a.length ≤ 2000000) : ∃ x e, Ev (fun k => cross_Values.f k a) (x, e) ∧ Ev (fun k => fringeref17_Values.f k a) (x, e) ∧ x.length ≤ 1000 := by
  obtain ⟨a1, a2⟩ := valid_all a ha
  by_cases h1 : vld a
  · rw [decide_eq_true h1] at a1 a2
    obtain ⟨A, rfl, hA, lA⟩ := vld_cl h1
    exact ⟨_, _, Ev.congr (fun k => cross_Values.f.eq_1 k _) (Ev.bind a1 (evp rfl (Ev.bind (values_ev hA) (Ev.now _)))), Ev.congr (fun k => fringeref17_Values.f.eq_1 k _) (Ev.bind a2 (evp rfl (Ev.bind (rBack_ev hA) (rvalues_loop (Fit.bwd hA) _ 0 (Nat.zero_add _))))), by rw [vls_length hA lA]; omega⟩
  · rw [decide_eq_false h1] at a1 a2
    exact ⟨[], 8, Ev.congr (fun k => cross_Values.f.eq_1 k _) (Ev.bind a1 (evn (by decide) (Ev.now _))), Ev.congr (fun k => fringeref17_Values.f.eq_1 k _) (Ev.bind a2 (evn (by decide) (Ev.now _))), by simp⟩
/-! lists compared with themselves -/
theorem same17_loop (l : List Int) (hl : l.length ≤ 1000) : ∀ (m i : Nat), i + m = l.length → Ev (fun k => fringeref17_Same.l0 k l l i) true := by
  intro m
  induction m with
  | zero =>
    intro i hi
    exact Ev.step (fun k => fringeref17_Same.l0.eq_2 _ _ _ k) (evn (by omega) (Ev.now _))
  | succ m ih =>
    intro i hi
    refine Ev.step (fun k => fringeref17_Same.l0.eq_2 _ _ _ k) (evp (by omega) (evp (by omega) (evp (by omega) (evp rfl ?_))))
    rw [succ1 (by omega)]
    exact ih (i + 1) (by omega)
theorem same17_ev {l : List Int} (h : l.length ≤ 1000) : Ev (fun k => fringeref17_Same.f k l l) true :=
  Ev.congr (fun k => fringeref17_Same.f.eq_1 k _ _) (evp rfl (same17_loop l h l.length 0 (Nat.zero_add _)))
theorem same13_loop (l : List Int) (hl : l.length ≤ 1000) : ∀ (m i : Nat), i + m = l.length → Ev (fun k => fringeref13_Same.l0 k l l i) true := by
  intro m
  induction m with
  | zero =>
    intro i hi
    exact Ev.step (fun k => fringeref13_Same.l0.eq_2 _ _ _ k) (evn (by omega) (Ev.now _))
  | succ m ih =>
    intro i hi
    refine Ev.step (fun k => fringeref13_Same.l0.eq_2 _ _ _ k) (evp (by omega) (evp (by omega) (evp (by omega) (evp rfl ?_))))
    rw [succ1 (by omega)]
    exact ih (i + 1) (by omega)
theorem same13_ev {l : List Int} (h : l.length ≤ 1000) : Ev (fun k => fringeref13_Same.f k l l) true :=
  Ev.congr (fun k => fringeref13_Same.f.eq_1 k _ _) (evp rfl (same13_loop l h l.length 0 (Nat.zero_add _)))
end Go.Proofs.Ytbopgopggnagpaa.XS
