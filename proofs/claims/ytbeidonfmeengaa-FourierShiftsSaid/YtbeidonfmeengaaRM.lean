set_option linter.unusedVariables false
set_option linter.unusedSimpArgs false
/- Pure number theory: prime factors, Fermat, Euclid, orders and primitive roots, over natural numbers. No program in sight. -/
namespace RM

def Pr (p : Nat) : Prop := 2 ≤ p ∧ ∀ d, d ∣ p → d = 1 ∨ d = p

theorem Pr.two {p : Nat} (h : Pr p) : 2 ≤ p := h.1
theorem Pr.coprime {p a : Nat} (h : Pr p) (ha : ¬ p ∣ a) : Nat.Coprime p a := by
  have h1 := h.2 (Nat.gcd p a) (Nat.gcd_dvd_left p a)
  rcases h1 with h1 | h1
  · exact h1
  · exact absurd (h1 ▸ Nat.gcd_dvd_right p a) ha
theorem Pr.dvd_mul {p a b : Nat} (h : Pr p) (hd : p ∣ a * b) : p ∣ a ∨ p ∣ b := by
  by_cases ha : p ∣ a
  · exact .inl ha
  · exact .inr (Nat.Coprime.dvd_of_dvd_mul_left (h.coprime ha) hd)
theorem Pr.dvd_pow {p a : Nat} (h : Pr p) : ∀ n, p ∣ a ^ n → p ∣ a
  | 0, hd => by
    have := Nat.le_of_dvd (by simp) hd
    have := h.1
    simp at *
    omega
  | n + 1, hd => by
    rw [Nat.pow_succ] at hd
    rcases h.dvd_mul hd with h1 | h1
    · exact h.dvd_pow n h1
    · exact h1
theorem Pr.not_dvd_lt {p a : Nat} (_h : Pr p) (h0 : 0 < a) (h1 : a < p) : ¬ p ∣ a := fun hd => by
  have := Nat.le_of_dvd h0 hd
  omega
theorem Pr.eq_of_dvd {p q : Nat} (hp : Pr p) (hq : Pr q) (h : p ∣ q) : p = q := by
  rcases hq.2 p h with h1 | h1
  · have := hp.1; omega
  · exact h1

/- least divisor -/
theorem exists_min_dvd (n : Nat) (h : 2 ≤ n) : ∃ m, 2 ≤ m ∧ m ∣ n ∧ ∀ d, 2 ≤ d → d ∣ n → m ≤ d := by
  have key : ∀ k, (∃ m, 2 ≤ m ∧ m ∣ n ∧ m ≤ k) → ∃ m, 2 ≤ m ∧ m ∣ n ∧ ∀ d, 2 ≤ d → d ∣ n → m ≤ d := by
    intro k
    induction k with
    | zero => rintro ⟨m, h1, _, h2⟩; omega
    | succ k ih =>
      rintro ⟨m, h1, h2, h3⟩
      by_cases hs : ∃ m, 2 ≤ m ∧ m ∣ n ∧ m ≤ k
      · exact ih hs
      · refine ⟨m, h1, h2, fun d hd1 hd2 => ?_⟩
        by_cases hlt : d ≤ k
        · exact absurd ⟨d, hd1, hd2, hlt⟩ hs
        · omega
  exact key n ⟨n, h, Nat.dvd_refl n, Nat.le_refl n⟩
noncomputable def mf (n : Nat) : Nat := if h : 2 ≤ n then Classical.choose (exists_min_dvd n h) else n
theorem mf_spec {n : Nat} (h : 2 ≤ n) : 2 ≤ mf n ∧ mf n ∣ n ∧ ∀ d, 2 ≤ d → d ∣ n → mf n ≤ d := by
  unfold mf
  rw [dif_pos h]
  exact Classical.choose_spec (exists_min_dvd n h)
theorem mf_prime {n : Nat} (h : 2 ≤ n) : Pr (mf n) := by
  obtain ⟨h1, h2, h3⟩ := mf_spec h
  refine ⟨h1, fun d hd => ?_⟩
  by_cases hd2 : 2 ≤ d
  · have := h3 d hd2 (Nat.dvd_trans hd h2)
    have := Nat.le_of_dvd (by omega) hd
    omega
  · have : 0 < d := Nat.pos_of_dvd_of_pos hd (by omega)
    omega
theorem exists_prime_dvd {n : Nat} (h : 2 ≤ n) : ∃ q, Pr q ∧ q ∣ n := ⟨mf n, mf_prime h, (mf_spec h).2.1⟩
theorem mf_div_lt {n : Nat} (h : 2 ≤ n) : n / mf n < n := Nat.div_lt_self (by omega) (mf_spec h).1
theorem mf_eq {n d : Nat} (h : 2 ≤ n) (hd : 2 ≤ d) (hdn : d ∣ n) (hno : ∀ e, 2 ≤ e → e < d → ¬ e ∣ n) : mf n = d := by
  obtain ⟨h1, h2, h3⟩ := mf_spec h
  have := h3 d hd hdn
  by_cases hlt : mf n < d
  · exact absurd h2 (hno _ h1 hlt)
  · omega

/- the list of prime factors, in order -/
noncomputable def pfl (n : Nat) : List Nat := if h : 2 ≤ n then mf n :: pfl (n / mf n) else []
termination_by n
decreasing_by exact mf_div_lt h
theorem pfl_lt {n : Nat} (h : n < 2) : pfl n = [] := by rw [pfl, dif_neg (by omega)]
theorem pfl_ge {n : Nat} (h : 2 ≤ n) : pfl n = mf n :: pfl (n / mf n) := by rw [pfl, dif_pos h]
theorem pfl_prime : ∀ (n : Nat), ∀ q ∈ pfl n, Pr q := by
  intro n
  induction n using Nat.strongRecOn with
  | _ n ih =>
    intro q hq
    by_cases h : 2 ≤ n
    · rw [pfl_ge h] at hq
      rcases List.mem_cons.1 hq with rfl | hq
      · exact mf_prime h
      · exact ih _ (mf_div_lt h) q hq
    · rw [pfl_lt (by omega)] at hq
      cases hq
def prod (l : List Nat) : Nat := l.foldr (· * ·) 1
theorem prod_nil : prod [] = 1 := rfl
theorem prod_cons (a : Nat) (l : List Nat) : prod (a :: l) = a * prod l := rfl
theorem prod_append (l m : List Nat) : prod (l ++ m) = prod l * prod m := by
  induction l with
  | nil => simp [prod_nil]
  | cons a l ih => rw [List.cons_append, prod_cons, ih, prod_cons, Nat.mul_assoc]
theorem prod_perm {l m : List Nat} (h : l.Perm m) : prod l = prod m := by
  induction h with
  | nil => rfl
  | cons a _ ih => rw [prod_cons, prod_cons, ih]
  | swap a b l => rw [prod_cons, prod_cons, prod_cons, prod_cons, ← Nat.mul_assoc, ← Nat.mul_assoc, Nat.mul_comm a b]
  | trans _ _ h1 h2 => exact h1.trans h2
theorem pfl_prod : ∀ (n : Nat), 0 < n → prod (pfl n) = n := by
  intro n
  induction n using Nat.strongRecOn with
  | _ n ih =>
    intro h0
    by_cases h : 2 ≤ n
    · obtain ⟨h1, h2, h3⟩ := mf_spec h
      rw [pfl_ge h, prod_cons, ih _ (mf_div_lt h) (Nat.div_pos (Nat.le_of_dvd h0 h2) (by omega)), Nat.mul_div_cancel' h2]
    · rw [pfl_lt (by omega)]
      have : n = 1 := by omega
      rw [this]; rfl
theorem pfl_dvd {n q : Nat} (h0 : 0 < n) (h : q ∈ pfl n) : q ∣ n := by
  have hp := pfl_prod n h0
  rw [← hp]
  clear hp
  generalize pfl n = l at h
  induction l with
  | nil => cases h
  | cons a l ih =>
    rw [prod_cons]
    rcases List.mem_cons.1 h with rfl | h
    · exact Nat.dvd_mul_right _ _
    · exact Nat.dvd_trans (ih h) (Nat.dvd_mul_left _ _)
theorem prime_dvd_prod {q : Nat} (hq : Pr q) : ∀ (l : List Nat), (∀ x ∈ l, Pr x) → q ∣ prod l → q ∈ l
  | [], _, hd => by
    have := Nat.le_of_dvd (by simp [prod]) hd
    have := hq.1
    simp [prod] at *
    omega
  | a :: l, hl, hd => by
    rw [prod_cons] at hd
    rcases hq.dvd_mul hd with h1 | h1
    · rw [hq.eq_of_dvd (hl a (by simp)) h1]; simp
    · exact List.mem_cons_of_mem _ (prime_dvd_prod hq l (fun x hx => hl x (List.mem_cons_of_mem _ hx)) h1)
theorem mem_pfl {n q : Nat} (h0 : 0 < n) (hq : Pr q) (hd : q ∣ n) : q ∈ pfl n :=
  prime_dvd_prod hq (pfl n) (pfl_prime n) (by rw [pfl_prod n h0]; exact hd)
theorem prod_pos {l : List Nat} (hl : ∀ x ∈ l, Pr x) : 0 < prod l := by
  induction l with
  | nil => simp [prod]
  | cons a l ih =>
    rw [prod_cons]
    have := (hl a (by simp)).1
    exact Nat.mul_pos (by omega) (ih (fun x hx => hl x (List.mem_cons_of_mem _ hx)))
/- unique factorization -/
theorem unique_perm : ∀ (l m : List Nat), (∀ x ∈ l, Pr x) → (∀ x ∈ m, Pr x) → prod l = prod m → l.Perm m
  | [], m, _, hm, h => by
    cases m with
    | nil => exact List.Perm.refl _
    | cons b m =>
      have h1 : prod (b :: m) = 1 := by rw [← h]; rfl
      rw [prod_cons] at h1
      have := (hm b (by simp)).1
      have h2 := Nat.eq_one_of_mul_eq_one_right h1
      omega
  | a :: l, m, hl, hm, h => by
    have ha : Pr a := hl a (by simp)
    have hin : a ∈ m := prime_dvd_prod ha m hm (by rw [← h, prod_cons]; exact Nat.dvd_mul_right _ _)
    have hp := List.perm_cons_erase hin
    have h2 : prod l = prod (m.erase a) := by
      have h3 := prod_perm hp
      rw [prod_cons, ← h, prod_cons] at h3
      have := ha.1
      exact Nat.eq_of_mul_eq_mul_left (by omega) h3
    exact ((unique_perm l (m.erase a) (fun x hx => hl x (List.mem_cons_of_mem _ hx)) (fun x hx => hm x (List.mem_of_mem_erase hx)) h2).cons a).trans hp.symm
theorem pfl_mul {a b : Nat} (ha : 0 < a) (hb : 0 < b) : (pfl (a * b)).Perm (pfl a ++ pfl b) :=
  unique_perm _ _ (pfl_prime _) (fun x hx => by rcases List.mem_append.1 hx with h | h <;> (first | exact pfl_prime _ x h | exact pfl_prime _ x h))
    (by rw [prod_append, pfl_prod _ (Nat.mul_pos ha hb), pfl_prod _ ha, pfl_prod _ hb])
theorem pfl_of_prime {p : Nat} (h : Pr p) : pfl p = [p] := by
  have h2 := h.1
  have hm : mf p = p := by
    rcases h.2 _ (mf_spec h2).2.1 with h1 | h1
    · have := (mf_spec h2).1; omega
    · exact h1
  rw [pfl_ge h2, hm, Nat.div_self (by omega), pfl_lt (by omega)]
theorem pfl_len_one {p : Nat} (h0 : 0 < p) : (pfl p).length = 1 ↔ Pr p := by
  constructor
  · intro h
    match hl : pfl p, h with
    | [q], _ =>
      have h1 := pfl_prod p h0
      rw [hl] at h1
      simp [prod] at h1
      have := pfl_prime p q (by rw [hl]; simp)
      rwa [h1] at this
  · intro h
    rw [pfl_of_prime h]; rfl
theorem pfl_sorted : ∀ (n i : Nat), (h : i + 1 < (pfl n).length) → (pfl n)[i] ≤ (pfl n)[i + 1] := by
  intro n
  induction n using Nat.strongRecOn with
  | _ n ih =>
    intro i hi
    by_cases h : 2 ≤ n
    · have hd := mf_div_lt h
      have e := pfl_ge h
      rw [List.getElem_of_eq e, List.getElem_of_eq e]
      cases i with
      | zero =>
        have hmem : (pfl (n / mf n))[0]'(by rw [e] at hi; simpa using hi) ∈ pfl (n / mf n) := List.getElem_mem _
        have hp := pfl_prime _ _ hmem
        have hpos : 0 < n / mf n := Nat.div_pos (Nat.le_of_dvd (by omega) (mf_spec h).2.1) (by have := (mf_spec h).1; omega)
        have hdv := pfl_dvd hpos hmem
        have := (mf_spec h).2.2 _ hp.1 (Nat.dvd_trans hdv (Nat.div_dvd_of_dvd (mf_spec h).2.1))
        simpa using this
      | succ i =>
        have := ih _ hd i (by rw [e] at hi; simpa using hi)
        simpa using this
    · rw [pfl_lt (by omega)] at hi
      simp at hi
theorem pfl_length_le (n : Nat) (h0 : 0 < n) : (pfl n).length ≤ n := by
  have : ∀ l : List Nat, (∀ x ∈ l, Pr x) → l.length < 1 + prod l := by
    intro l
    induction l with
    | nil => intro _; simp [prod]
    | cons a l ih =>
      intro hl
      have h1 := ih (fun x hx => hl x (List.mem_cons_of_mem _ hx))
      have h2 := (hl a (by simp)).1
      have h3 := prod_pos (fun x hx => hl x (List.mem_cons_of_mem _ hx))
      rw [prod_cons, List.length_cons]
      have : 2 * prod l ≤ a * prod l := Nat.mul_le_mul_right _ h2
      omega
  have := this (pfl n) (pfl_prime n)
  rw [pfl_prod n h0] at this
  omega

/- trial division: what remains when no divisor lies below d -/
theorem mf_self {n d : Nat} (h : 2 ≤ n) (hno : ∀ e, 2 ≤ e → e < d → ¬ e ∣ n) (hd : n < d * d) : mf n = n := by
  obtain ⟨h1, ⟨q, hq⟩, h3⟩ := mf_spec h
  have hge : d ≤ mf n := by
    by_cases hlt : mf n < d
    · exact absurd ⟨q, hq⟩ (hno _ h1 hlt)
    · omega
  by_cases hq1 : q < 2
  · have : q = 0 ∨ q = 1 := by omega
    rcases this with rfl | rfl
    · omega
    · omega
  · have hqd : q ∣ n := ⟨mf n, by rw [Nat.mul_comm]; exact hq⟩
    have := h3 q (by omega) hqd
    have : d * d ≤ mf n * q := Nat.mul_le_mul hge (by omega)
    omega
theorem pfl_self {n d : Nat} (h : 2 ≤ n) (hno : ∀ e, 2 ≤ e → e < d → ¬ e ∣ n) (hd : n < d * d) : pfl n = [n] := by
  rw [pfl_ge h, mf_self h hno hd, Nat.div_self (by omega), pfl_lt (by omega)]
theorem pfl_step {n d : Nat} (hn : 1 ≤ n) (hd : 2 ≤ d) (hdn : d ∣ n) (hno : ∀ e, 2 ≤ e → e < d → ¬ e ∣ n) : pfl n = d :: pfl (n / d) := by
  have h2 : 2 ≤ n := Nat.le_trans hd (Nat.le_of_dvd hn hdn)
  rw [pfl_ge h2, mf_eq h2 hd hdn hno]
theorem no_div_div {n d : Nat} (hdn : d ∣ n) (hno : ∀ e, 2 ≤ e → e < d → ¬ e ∣ n) : ∀ e, 2 ≤ e → e < d → ¬ e ∣ n / d :=
  fun e h1 h2 h3 => hno e h1 h2 (Nat.dvd_trans h3 (Nat.div_dvd_of_dvd hdn))

/- powers modulo p -/
theorem pow_mod_mul (p a m n : Nat) : a ^ m % p * (a ^ n % p) % p = a ^ (m + n) % p := by
  rw [← Nat.mul_mod, Nat.pow_add]
theorem pow_mod_pow (p a m n : Nat) : (a ^ m % p) ^ n % p = a ^ (m * n) % p := by
  rw [← Nat.pow_mod, Nat.pow_mul]
theorem pow_one_mul {p a m : Nat} (hp : 2 ≤ p) (h : a ^ m % p = 1) (n : Nat) : a ^ (m * n) % p = 1 := by
  rw [← pow_mod_pow, h, Nat.one_pow, Nat.mod_eq_of_lt (by omega)]

/- Fermat: the multiples of a run through all remainders -/
theorem Pr.inj {p a : Nat} (h : Pr p) (ha : ¬ p ∣ a) {i j : Nat} (hi : i < p) (hj : j < p) (he : a * i % p = a * j % p) : i = j := by
  have key : ∀ i j, i ≤ j → j < p → a * i % p = a * j % p → i = j := by
    intro i j hij hj he
    have h1 : p ∣ a * j - a * i := Nat.dvd_of_mod_eq_zero (Nat.sub_mod_eq_zero_of_mod_eq he.symm)
    rw [← Nat.mul_sub] at h1
    rcases h.dvd_mul h1 with h2 | h2
    · exact absurd h2 ha
    · by_cases h3 : j - i = 0
      · omega
      · have := Nat.le_of_dvd (by omega) h2
        omega
  rcases Nat.le_total i j with h1 | h1
  · exact key i j h1 hj he
  · exact (key j i h1 hi he.symm).symm
theorem nodup_perm : ∀ (l m : List Nat), l.Nodup → (∀ x ∈ l, x ∈ m) → m.length ≤ l.length → l.Perm m
  | [], m, _, _, h => by
    have : m = [] := List.eq_nil_of_length_eq_zero (by simpa using h)
    rw [this]
  | a :: l, m, hn, hs, h => by
    have ha : a ∈ m := hs a (by simp)
    rw [List.nodup_cons] at hn
    have h1 := nodup_perm l (m.erase a) hn.2 (fun x hx => by
      have hxm := hs x (List.mem_cons_of_mem _ hx)
      have hne : x ≠ a := fun e => hn.1 (e ▸ hx)
      exact (List.mem_erase_of_ne hne).2 hxm) (by rw [List.length_erase_of_mem ha]; simp at h; omega)
    exact (h1.cons a).trans (List.perm_cons_erase ha).symm
def upto (p : Nat) : List Nat := (List.range (p - 1)).map (· + 1)
theorem mem_upto {p x : Nat} : x ∈ upto p ↔ 1 ≤ x ∧ x < p := by
  unfold upto
  rw [List.mem_map]
  constructor
  · rintro ⟨i, hi, rfl⟩
    rw [List.mem_range] at hi
    omega
  · rintro ⟨h1, h2⟩
    exact ⟨x - 1, List.mem_range.2 (by omega), by omega⟩
theorem nodup_map_of_inj {f : Nat → Nat} : ∀ (l : List Nat), l.Nodup → (∀ x ∈ l, ∀ y ∈ l, f x = f y → x = y) → (l.map f).Nodup
  | [], _, _ => by simp
  | a :: l, hn, hf => by
    rw [List.nodup_cons] at hn
    rw [List.map_cons, List.nodup_cons]
    refine ⟨fun h => ?_, nodup_map_of_inj l hn.2 (fun x hx y hy => hf x (List.mem_cons_of_mem _ hx) y (List.mem_cons_of_mem _ hy))⟩
    obtain ⟨y, hy, he⟩ := List.mem_map.1 h
    have := hf y (List.mem_cons_of_mem _ hy) a (by simp) he
    exact hn.1 (this ▸ hy)
theorem upto_nodup (p : Nat) : (upto p).Nodup := nodup_map_of_inj _ List.nodup_range (fun x _ y _ h => by simpa using h)
theorem upto_length (p : Nat) : (upto p).length = p - 1 := by simp [upto]
theorem prod_map_mul (a : Nat) (l : List Nat) : prod (l.map (a * ·)) = a ^ l.length * prod l := by
  induction l with
  | nil => simp [prod]
  | cons b l ih =>
    rw [List.map_cons, prod_cons, ih, prod_cons, List.length_cons, Nat.pow_succ]
    simp only [Nat.mul_comm, Nat.mul_left_comm, Nat.mul_assoc]
theorem prod_map_mod (p : Nat) (l : List Nat) : prod (l.map (· % p)) % p = prod l % p := by
  induction l with
  | nil => rfl
  | cons b l ih => rw [List.map_cons, prod_cons, prod_cons, Nat.mul_mod, Nat.mod_mod, ih, ← Nat.mul_mod]
theorem not_dvd_prod {p : Nat} (h : Pr p) : ∀ (l : List Nat), (∀ x ∈ l, ¬ p ∣ x) → ¬ p ∣ prod l
  | [], _, hd => by
    have := Nat.le_of_dvd (by simp [prod]) hd
    have := h.1
    simp [prod] at *
    omega
  | a :: l, hl, hd => by
    rw [prod_cons] at hd
    rcases h.dvd_mul hd with h1 | h1
    · exact hl a (by simp) h1
    · exact not_dvd_prod h l (fun x hx => hl x (List.mem_cons_of_mem _ hx)) h1
theorem fermat {p a : Nat} (h : Pr p) (ha : ¬ p ∣ a) : a ^ (p - 1) % p = 1 := by
  have h2 := h.1
  have hperm : ((upto p).map (fun i => a * i % p)).Perm (upto p) := by
    refine nodup_perm _ _ (nodup_map_of_inj _ (upto_nodup p) ?_) ?_ (by simp)
    · intro x hx y hy he
      exact h.inj ha (mem_upto.1 hx).2 (mem_upto.1 hy).2 he
    · intro x hx
      obtain ⟨i, hi, rfl⟩ := List.mem_map.1 hx
      rw [mem_upto] at hi ⊢
      refine ⟨?_, Nat.mod_lt _ (by omega)⟩
      rcases Nat.eq_zero_or_pos (a * i % p) with h0 | h0
      · rcases h.dvd_mul (Nat.dvd_of_mod_eq_zero h0) with h3 | h3
        · exact absurd h3 ha
        · exact absurd h3 (h.not_dvd_lt (by omega) hi.2)
      · exact h0
  have hprod := prod_perm hperm
  have h1 : prod ((upto p).map (fun i => a * i % p)) % p = a ^ (p - 1) * prod (upto p) % p := by
    have e : (upto p).map (fun i => a * i % p) = ((upto p).map (a * ·)).map (· % p) := by rw [List.map_map]; rfl
    rw [e, prod_map_mod, prod_map_mul, upto_length]
  rw [hprod] at h1
  have hnd : ¬ p ∣ prod (upto p) := not_dvd_prod h _ (fun x hx => by rw [mem_upto] at hx; exact h.not_dvd_lt (by omega) hx.2)
  have h3 : prod (upto p) * 1 % p = prod (upto p) * (a ^ (p - 1) % p) % p := by
    rw [Nat.mul_one, Nat.mul_mod (prod (upto p)), Nat.mod_mod, ← Nat.mul_mod, Nat.mul_comm (prod (upto p))]
    exact h1
  exact (h.inj hnd (by omega) (Nat.mod_lt _ (by omega)) h3).symm
theorem fermat_p {p a : Nat} (h : Pr p) (ha : a < p) : a ^ p % p = a := by
  have h2 := h.1
  by_cases h0 : a = 0
  · subst h0
    rw [Nat.zero_pow (by omega)]; simp
  · have hf := fermat h (h.not_dvd_lt (by omega) ha)
    have e : p = (p - 1) + 1 := by omega
    have : a ^ ((p - 1) + 1) % p = a := by rw [Nat.pow_succ, Nat.mul_mod, hf, Nat.one_mul, Nat.mod_mod, Nat.mod_eq_of_lt ha]
    rwa [← e] at this
theorem inv_unique {p a b c : Nat} (h : Pr p) (ha : ¬ p ∣ a) (hb : b < p) (hc : c < p) (h1 : a * b % p = 1) (h2 : a * c % p = 1) : b = c :=
  h.inj ha hb hc (h1.trans h2.symm)
theorem fermat_inv {p a : Nat} (h : Pr p) (ha : ¬ p ∣ a) : a * (a ^ (p - 2) % p) % p = 1 := by
  have h2 := h.1
  have e : p - 1 = (p - 2) + 1 := by omega
  have := fermat h ha
  rw [e, Nat.pow_succ] at this
  rw [Nat.mul_mod, Nat.mod_mod, ← Nat.mul_mod, Nat.mul_comm]
  exact this

/- exponents that give 1 -/
theorem pow_gcd {p c : Nat} (hp : 2 ≤ p) (m n : Nat) : c ^ m % p = 1 → c ^ n % p = 1 → c ^ (Nat.gcd m n) % p = 1 := by
  induction m, n using Nat.gcd.induction with
  | H0 n => intro _ h; rwa [Nat.gcd_zero_left]
  | H1 m n hm ih =>
    intro h1 h2
    rw [Nat.gcd_rec]
    refine ih ?_ h1
    have e : n = m * (n / m) + n % m := (Nat.div_add_mod n m).symm
    rw [e, ← pow_mod_mul, pow_one_mul hp h1, Nat.one_mul, Nat.mod_mod] at h2
    exact h2
theorem pow_coprime {p c m n : Nat} (hp : 2 ≤ p) (h1 : c ^ m % p = 1) (h2 : c ^ n % p = 1) (h : Nat.Coprime m n) : c % p = 1 := by
  have := pow_gcd hp m n h1 h2
  rw [h, Nat.pow_one] at this
  exact this

/- polynomial functions have no more roots than their degree -/
def P : Nat → Int → (Int → Int) → Prop
  | 0, a, f => ∀ x, f x = a
  | n + 1, a, f => ∀ r, ∃ g, P n a g ∧ ∀ x, f x - f r = (x - r) * g x
theorem P.smul (c : Int) : ∀ {n a f}, P n a f → P n (c * a) (fun x => c * f x)
  | 0, _, _, h => fun x => by simp only [h x]
  | n + 1, a, f, h => fun r => by
    obtain ⟨g, hg, he⟩ := h r
    refine ⟨_, hg.smul c, fun x => ?_⟩
    have := he x
    simp only
    rw [← Int.mul_sub, this, Int.mul_left_comm]
theorem P.add_lower : ∀ {n a b f g}, P (n + 1) a f → P n b g → P (n + 1) a (fun x => f x + g x)
  | 0, a, b, f, g, hf, hg => fun r => by
    obtain ⟨q, hq, he⟩ := hf r
    refine ⟨q, hq, fun x => ?_⟩
    have h1 := he x
    have h2 := hg x
    have h3 := hg r
    simp only
    omega
  | n + 1, a, b, f, g, hf, hg => fun r => by
    obtain ⟨q, hq, he⟩ := hf r
    obtain ⟨q', hq', he'⟩ := hg r
    refine ⟨_, hq.add_lower hq', fun x => ?_⟩
    have h1 := he x
    have h2 := he' x
    simp only
    rw [Int.mul_add, ← h1, ← h2]
    omega
theorem P.horner (c : Int) : ∀ {n a g}, P n a g → P (n + 1) a (fun x => c + x * g x)
  | 0, a, g, h => fun r => ⟨fun _ => a, fun _ => rfl, fun x => by
      have h1 := h x
      have h2 := h r
      simp only [h1, h2, Int.sub_mul]
      omega⟩
  | n + 1, a, g, h => fun r => by
    obtain ⟨q, hq, he⟩ := h r
    refine ⟨_, P.add_lower h (hq.smul r), fun x => ?_⟩
    have h1 := he x
    simp only
    have e : (x - r) * (g x + r * q x) = (x - r) * g x + r * ((x - r) * q x) := by
      rw [Int.mul_add, Int.mul_left_comm]
    rw [e, ← h1, Int.sub_mul, Int.mul_sub]
    omega
theorem P.const_add (c : Int) {n a f} (h : P (n + 1) a f) : P (n + 1) a (fun x => f x + c) := fun r => by
  obtain ⟨q, hq, he⟩ := h r
  refine ⟨q, hq, fun x => ?_⟩
  have := he x
  simp only
  omega
theorem P.pow : ∀ n, P n 1 (fun x => x ^ n)
  | 0 => fun x => by simp
  | n + 1 => by
    have h := (P.pow n).horner 0
    have e : (fun x : Int => x ^ (n + 1)) = (fun x => 0 + x * x ^ n) := by
      funext x
      rw [Int.pow_succ, Int.mul_comm]
      omega
    rw [e]
    exact h
theorem int_dvd_mul {p : Nat} (h : Pr p) {a b : Int} (hd : (p : Int) ∣ a * b) : (p : Int) ∣ a ∨ (p : Int) ∣ b := by
  have h1 : p ∣ a.natAbs * b.natAbs := by
    rw [← Int.natAbs_mul]
    exact Int.ofNat_dvd_left.1 hd
  rcases h.dvd_mul h1 with h2 | h2
  · exact .inl (Int.ofNat_dvd_left.2 h2)
  · exact .inr (Int.ofNat_dvd_left.2 h2)
theorem P.roots {p : Nat} (hp : Pr p) : ∀ {n a f}, P n a f → ¬ (p : Int) ∣ a → ∀ l : List Nat, l.Nodup → (∀ x ∈ l, x < p ∧ (p : Int) ∣ f x) → l.length ≤ n
  | 0, a, f, h, ha, l, _, hl => by
    cases l with
    | nil => simp
    | cons x l =>
      have := (hl x (by simp)).2
      rw [h x] at this
      exact absurd this ha
  | n + 1, a, f, h, ha, l, hn, hl => by
    cases l with
    | nil => simp
    | cons r l =>
      obtain ⟨g, hg, he⟩ := h r
      rw [List.nodup_cons] at hn
      have := P.roots hp hg ha l hn.2 (fun x hx => by
        have hx1 := hl x (List.mem_cons_of_mem _ hx)
        have hr1 := hl r (by simp)
        refine ⟨hx1.1, ?_⟩
        have hd : (p : Int) ∣ ((x : Int) - r) * g x := by
          rw [← he x]
          exact Int.dvd_sub hx1.2 hr1.2
        rcases int_dvd_mul hp hd with h1 | h1
        · exfalso
          have hne : x ≠ r := fun e => hn.1 (e ▸ hx)
          have h2 := Int.ofNat_dvd_left.1 h1
          have h3 := Nat.le_of_dvd (by omega) h2
          omega
        · exact h1)
      simp only [List.length_cons]
      omega
theorem exists_not_one {p m : Nat} (hp : Pr p) (h1 : 1 ≤ m) (h2 : m < p - 1) : ∃ a, 1 ≤ a ∧ a < p ∧ a ^ m % p ≠ 1 := by
  by_cases hall : ∃ a, 1 ≤ a ∧ a < p ∧ a ^ m % p ≠ 1
  · exact hall
  · exfalso
    obtain ⟨k, rfl⟩ : ∃ k, m = k + 1 := ⟨m - 1, by omega⟩
    have hP := (P.pow (k + 1)).const_add (-1)
    have h3 := hp.1
    have := P.roots hp hP (fun hd => by
      have h4 := Int.ofNat_dvd_left.1 hd
      have := Nat.le_of_dvd (by decide) h4
      simp at this
      omega) (upto p) (upto_nodup p) (fun x hx => by
      rw [mem_upto] at hx
      refine ⟨hx.2, ?_⟩
      have h5 : x ^ (k + 1) % p = 1 := by
        by_cases he : x ^ (k + 1) % p = 1
        · exact he
        · exact absurd ⟨x, hx.1, hx.2, he⟩ hall
      have e : ((x : Int) ^ (k + 1)) = ((x ^ (k + 1) : Nat) : Int) := by simp
      have h6 : ((x ^ (k + 1) : Nat) : Int) % (p : Int) = 1 := by
        rw [← Int.natCast_emod, h5]; rfl
      have h7 := Int.emod_add_mul_ediv ((x ^ (k + 1) : Nat) : Int) (p : Int)
      rw [h6] at h7
      rw [e]
      exact ⟨((x ^ (k + 1) : Nat) : Int) / (p : Int), by omega⟩)
    rw [upto_length] at this
    omega

/- a primitive root -/
theorem prim_step {p : Nat} (hp : Pr p) {q : Nat} (hq : Pr q) (hqn : q ∣ p - 1) (Q : List Nat) (hQ : ∀ x ∈ Q, Pr x ∧ x ∣ p - 1) (g : Nat) (hg : ¬ p ∣ g)
    (h : ∀ x ∈ Q, g ^ ((p - 1) / x) % p ≠ 1) : ∃ g', ¬ p ∣ g' ∧ ∀ x ∈ q :: Q, g' ^ ((p - 1) / x) % p ≠ 1 := by
  have h2 := hp.1
  by_cases hmem : q ∈ Q
  · refine ⟨g, hg, fun x hx => ?_⟩
    rcases List.mem_cons.1 hx with e | hx
    · rw [e]; exact h _ hmem
    · exact h _ hx
  · have hn : 0 < p - 1 := by omega
    -- the whole power of q in p - 1
    obtain ⟨e, m, hm, hqm, he⟩ : ∃ e m, p - 1 = q ^ (e + 1) * m ∧ ¬ q ∣ m ∧ 0 < m := by
      have key : ∀ n, 0 < n → q ∣ n → ∃ e m, n = q ^ (e + 1) * m ∧ ¬ q ∣ m ∧ 0 < m := by
        intro n
        induction n using Nat.strongRecOn with
        | _ n ih =>
          intro h0 hd
          obtain ⟨k, rfl⟩ := hd
          have hk : 0 < k := Nat.pos_of_mul_pos_left h0
          by_cases hqk : q ∣ k
          · obtain ⟨e, m, e1, e2, e3⟩ := ih k (by have := hq.1; have : 2 * k ≤ q * k := Nat.mul_le_mul_right _ hq.1; omega) hk hqk
            exact ⟨e + 1, m, by rw [e1, Nat.pow_succ q (e + 1), Nat.mul_comm (q ^ (e + 1)) q, Nat.mul_assoc], e2, e3⟩
          · exact ⟨0, k, by simp, hqk, hk⟩
      exact key _ hn hqn
    have hq2 := hq.1
    have hpw : 0 < q ^ e := Nat.pow_pos (by omega)
    have hdiv : (p - 1) / q = q ^ e * m := by
      rw [hm, Nat.pow_succ, Nat.mul_right_comm, Nat.mul_div_cancel _ (by omega)]
    obtain ⟨a, ha1, ha2, ha3⟩ := exists_not_one hp (m := (p - 1) / q) (Nat.div_pos (Nat.le_of_dvd hn hqn) (by omega)) (Nat.div_lt_self hn hq2)
    have hna : ¬ p ∣ a := hp.not_dvd_lt (by omega) ha2
    refine ⟨g ^ (q ^ (e + 1)) * a ^ m, fun hd => ?_, fun x hx => ?_⟩
    · rcases hp.dvd_mul hd with h3 | h3
      · exact hg (hp.dvd_pow _ h3)
      · exact hna (hp.dvd_pow _ h3)
    · rw [Nat.mul_pow, ← Nat.pow_mul, ← Nat.pow_mul]
      rcases List.mem_cons.1 hx with rfl | hx
      · intro hc
        have e1 : g ^ (x ^ (e + 1) * ((p - 1) / x)) % p = 1 := by
          have e2 : x ^ (e + 1) * ((p - 1) / x) = (p - 1) * x ^ e := by
            rw [hdiv, hm, Nat.pow_succ]
            simp only [Nat.mul_comm, Nat.mul_left_comm]
          rw [e2]
          exact pow_one_mul h2 (fermat hp hg) _
        rw [Nat.mul_mod, e1, Nat.one_mul, Nat.mod_mod, Nat.mul_comm m, Nat.pow_mul] at hc
        have e3 : (a ^ ((p - 1) / x)) ^ x % p = 1 := by
          rw [← Nat.pow_mul, Nat.div_mul_cancel hqn]
          exact fermat hp hna
        exact ha3 (pow_coprime h2 hc e3 (Nat.Coprime.symm (hq.coprime hqm)))
      · obtain ⟨hx1, hx2⟩ := hQ x hx
        have hne : q ≠ x := fun e => hmem (e ▸ hx)
        have hxm : x ∣ m := by
          rw [hm] at hx2
          rcases hx1.dvd_mul hx2 with h3 | h3
          · exact absurd (hx1.eq_of_dvd hq (hx1.dvd_pow _ h3)).symm hne
          · exact h3
        have hdx : (p - 1) / x = q ^ (e + 1) * (m / x) := by rw [hm, Nat.mul_div_assoc _ hxm]
        intro hc
        have e1 : a ^ (m * ((p - 1) / x)) % p = 1 := by
          have e2 : m * ((p - 1) / x) = (p - 1) * (m / x) := by
            rw [hdx, hm]
            simp only [Nat.mul_comm, Nat.mul_left_comm]
          rw [e2]
          exact pow_one_mul h2 (fermat hp hna) _
        rw [Nat.mul_mod, e1, Nat.mul_one, Nat.mod_mod, Nat.mul_comm (q ^ (e + 1)), Nat.pow_mul] at hc
        have e3 : (g ^ ((p - 1) / x)) ^ x % p = 1 := by
          rw [← Nat.pow_mul, Nat.div_mul_cancel hx2]
          exact fermat hp hg
        have hcop : Nat.Coprime (q ^ (e + 1)) x := Nat.Coprime.symm (hx1.coprime (fun h3 => hne (hx1.eq_of_dvd hq (hx1.dvd_pow _ h3)).symm))
        exact h x hx (pow_coprime h2 hc e3 hcop)
theorem prim_exists {p : Nat} (hp : Pr p) : ∃ g, 1 ≤ g ∧ g < p ∧ ∀ q, Pr q → q ∣ p - 1 → g ^ ((p - 1) / q) % p ≠ 1 := by
  have h2 := hp.1
  have key : ∀ Q : List Nat, (∀ x ∈ Q, Pr x ∧ x ∣ p - 1) → ∃ g, ¬ p ∣ g ∧ ∀ x ∈ Q, g ^ ((p - 1) / x) % p ≠ 1 := by
    intro Q
    induction Q with
    | nil => exact fun _ => ⟨1, fun h => by have := Nat.le_of_dvd (by decide) h; omega, fun x hx => by cases hx⟩
    | cons q Q ih =>
      intro hQ
      obtain ⟨g, hg, hh⟩ := ih (fun x hx => hQ x (List.mem_cons_of_mem _ hx))
      exact prim_step hp (hQ q (by simp)).1 (hQ q (by simp)).2 Q (fun x hx => hQ x (List.mem_cons_of_mem _ hx)) g hg hh
  by_cases h1 : p = 2
  · refine ⟨1, by omega, by omega, fun q hq hd => ?_⟩
    have := Nat.le_of_dvd (by omega) hd
    have := hq.1
    omega
  · obtain ⟨g, hg, hh⟩ := key (pfl (p - 1)) (fun x hx => ⟨pfl_prime _ x hx, pfl_dvd (by omega) hx⟩)
    refine ⟨g % p, ?_, Nat.mod_lt _ (by omega), fun q hq hd => ?_⟩
    · rcases Nat.eq_zero_or_pos (g % p) with h3 | h3
      · exact absurd (Nat.dvd_of_mod_eq_zero h3) hg
      · exact h3
    · rw [← Nat.pow_mod]
      exact hh q (mem_pfl (by omega) hq hd)

/- orders -/
def ordl (p a : Nat) : Nat → List Nat → Nat
  | n, [] => n
  | n, q :: l => if a ^ (n / q) % p = 1 then ordl p a (n / q) l else ordl p a n l
/-- r is the order of a. -/
def Ord (p a r : Nat) : Prop := 1 ≤ r ∧ a ^ r % p = 1 ∧ ∀ q, Pr q → q ∣ r → a ^ (r / q) % p ≠ 1
theorem ordl_spec {p a : Nat} (hp : 2 ≤ p) (N : Nat) : ∀ (l : List Nat) (n k : Nat), (∀ x ∈ l, Pr x) → n = k * prod l → 1 ≤ n → n ∣ N → a ^ n % p = 1 →
    (∀ q, Pr q → q ∣ k → a ^ (n / q) % p ≠ 1) → Ord p a (ordl p a n l) ∧ ordl p a n l ∣ N
  | [], n, k, _, hn, h1, hN, ha, hk => by
    have : n = k := by rw [hn]; simp [prod]
    subst this
    exact ⟨⟨h1, ha, hk⟩, hN⟩
  | q :: l, n, k, hl, hn, h1, hN, ha, hk => by
    have hq := hl q (by simp)
    have hq2 := hq.1
    have hl' : ∀ x ∈ l, Pr x := fun x hx => hl x (List.mem_cons_of_mem _ hx)
    have hqn : q ∣ n := ⟨k * prod l, by rw [hn, prod_cons, Nat.mul_left_comm]⟩
    have hdiv : n / q = k * prod l := by rw [hn, prod_cons, Nat.mul_left_comm, Nat.mul_div_cancel_left _ (by omega)]
    unfold ordl
    split
    · rename_i hc
      refine ordl_spec hp N l (n / q) k hl' hdiv (Nat.div_pos (Nat.le_of_dvd h1 hqn) (by omega)) (Nat.dvd_trans (Nat.div_dvd_of_dvd hqn) hN) hc (fun x hx hxk hbad => ?_)
      refine hk x hx hxk ?_
      have hxd : x ∣ n / q := by rw [hdiv]; exact Nat.dvd_trans hxk (Nat.dvd_mul_right _ _)
      have e : n / x = n / q / x * q := by
        obtain ⟨c, hc2⟩ := hxd
        have hne : n = x * c * q := by rw [← hc2, Nat.div_mul_cancel hqn]
        have hx2 := hx.1
        rw [hc2, Nat.mul_div_cancel_left _ (by omega), hne, Nat.mul_assoc, Nat.mul_div_cancel_left _ (by omega)]
      rw [e]
      exact pow_one_mul hp hbad q
    · rename_i hc
      refine ordl_spec hp N l n (k * q) hl' (by rw [hn, prod_cons, Nat.mul_assoc]) h1 hN ha (fun x hx hxk => ?_)
      rcases hx.dvd_mul hxk with h3 | h3
      · exact hk x hx h3
      · rw [hx.eq_of_dvd hq h3]; exact hc
theorem ordl_pfl {p a : Nat} (hp : Pr p) (ha : ¬ p ∣ a) : Ord p a (ordl p a (p - 1) (pfl (p - 1))) ∧ ordl p a (p - 1) (pfl (p - 1)) ∣ p - 1 := by
  have h2 := hp.1
  refine ordl_spec h2 (p - 1) (pfl (p - 1)) (p - 1) 1 (pfl_prime _) (by rw [pfl_prod _ (by omega), Nat.one_mul]) (by omega) (Nat.dvd_refl _) (fermat hp ha) (fun q hq hd => ?_)
  have := Nat.le_of_dvd (by decide) hd
  have := hq.1
  omega
theorem Ord.dvd {p a r m : Nat} (hp : 2 ≤ p) (h : Ord p a r) (hm : a ^ m % p = 1) : r ∣ m := by
  obtain ⟨h1, h2, h3⟩ := h
  have hg := pow_gcd hp r m h2 hm
  have hgd := Nat.gcd_dvd_left r m
  have hgp : 0 < Nat.gcd r m := Nat.gcd_pos_of_pos_left _ h1
  by_cases he : Nat.gcd r m = r
  · exact he ▸ Nat.gcd_dvd_right r m
  · exfalso
    obtain ⟨c, hc⟩ := hgd
    have hc2 : 2 ≤ c := by
      by_cases hlt : c < 2
      · have : c = 0 ∨ c = 1 := by omega
        rcases this with rfl | rfl
        · omega
        · rw [Nat.mul_one] at hc; exact absurd hc.symm he
      · omega
    obtain ⟨q, hq, d, hd⟩ := exists_prime_dvd hc2
    have hq2 := hq.1
    generalize hG : Nat.gcd r m = G at *
    refine h3 q hq ⟨G * d, by rw [hc, hd, Nat.mul_left_comm]⟩ ?_
    have e : r / q = G * d := by rw [hc, hd, Nat.mul_left_comm, Nat.mul_div_cancel_left _ (by omega)]
    rw [e]
    exact pow_one_mul hp hg d
theorem Ord.unique {p a r s : Nat} (hp : 2 ≤ p) (h : Ord p a r) (k : Ord p a s) : r = s :=
  Nat.dvd_antisymm (h.dvd hp k.2.1) (k.dvd hp h.2.1)
theorem ordl_le (p a : Nat) : ∀ (l : List Nat) (n : Nat), ordl p a n l ≤ n
  | [], n => Nat.le_refl n
  | q :: l, n => by
    unfold ordl
    split
    · exact Nat.le_trans (ordl_le p a l _) (Nat.div_le_self _ _)
    · exact ordl_le p a l n
theorem ordl_full (p a : Nat) : ∀ (l : List Nat) (n : Nat), 1 ≤ n → (∀ x ∈ l, 2 ≤ x) → (ordl p a n l = n ↔ ∀ q ∈ l, a ^ (n / q) % p ≠ 1)
  | [], n, _, _ => by simp [ordl]
  | q :: l, n, h1, hl => by
    unfold ordl
    split
    · rename_i hc
      have h3 := ordl_le p a l (n / q)
      have h4 : n / q < n := Nat.div_lt_self h1 (hl q (by simp))
      constructor
      · intro he; omega
      · intro hh; exact absurd hc (hh q (by simp))
    · rename_i hc
      rw [ordl_full p a l n h1 (fun x hx => hl x (List.mem_cons_of_mem _ hx))]
      constructor
      · intro hh x hx
        rcases List.mem_cons.1 hx with e | hx
        · rw [e]; exact hc
        · exact hh x hx
      · exact fun hh x hx => hh x (List.mem_cons_of_mem _ hx)
theorem prim_ord {p g : Nat} (hp : Pr p) (h1 : 1 ≤ g) (h2 : g < p) (hg : ∀ q, Pr q → q ∣ p - 1 → g ^ ((p - 1) / q) % p ≠ 1) : Ord p g (p - 1) :=
  ⟨by have := hp.1; omega, fermat hp (hp.not_dvd_lt (by omega) h2), hg⟩
theorem root_ord {p g n : Nat} (hp : Pr p) (hg : Ord p g (p - 1)) (hn : 1 ≤ n) (hd : n ∣ p - 1) : Ord p (g ^ ((p - 1) / n) % p) n := by
  have hp2 := hp.1
  refine ⟨hn, ?_, fun q hq hqn => ?_⟩
  · rw [pow_mod_pow, Nat.div_mul_cancel hd]; exact hg.2.1
  · rw [pow_mod_pow]
    have e : (p - 1) / n * (n / q) = (p - 1) / q := by
      obtain ⟨c, hc⟩ := hd
      obtain ⟨d, hd2⟩ := hqn
      have hq2 := hq.1
      rw [hc, Nat.mul_div_cancel_left _ (by omega), hd2, Nat.mul_div_cancel_left _ (by omega), Nat.mul_assoc, Nat.mul_div_cancel_left _ (by omega), Nat.mul_comm]
    rw [e]
    exact hg.2.2 q hq (Nat.dvd_trans hqn hd)
theorem Ord.distinct {p r n : Nat} (hp : Pr p) (hr : ¬ p ∣ r) (h : Ord p r n) {i j : Nat} (hij : i < j) (hj : j < n) : r ^ i % p ≠ r ^ j % p := by
  intro he
  have hp2 := hp.1
  have e : j = i + (j - i) := by omega
  have h1 : r ^ i * 1 % p = r ^ i * (r ^ (j - i) % p) % p := by
    rw [Nat.mul_one, he, e, Nat.pow_add]
    simp [Nat.mul_mod]
  have h2 := hp.inj (fun hd => hr (hp.dvd_pow _ hd)) (by omega) (Nat.mod_lt _ (by omega)) h1
  have := Nat.le_of_dvd (by omega) (h.dvd hp2 h2.symm)
  omega
end RM
