import Derived.Test.YtbeidonfmeengaaRLfp
set_option linter.unusedVariables false
set_option linter.unusedSimpArgs false
namespace Go.Proofs.Ytbeidonfmeengaa.RL
open Go Go.RowKit Go.Proofs.Ytbeidonfmeengaa.PAll Go.Proofs.YtbeidonfmeengaaW.PrintWords Go.Proofs.YtbeidonfmeengaaW.PrintLast RM

theorem evp {α : Type} {c : Prop} [Decidable c] {g f : Nat → Option α} {r : α} (h : c) (e : Ev g r) : Ev (fun k => if c then g k else f k) r := Ev.congr (fun k => if_pos h) e
theorem evn {α : Type} {c : Prop} [Decidable c] {g f : Nat → Option α} {r : α} (h : ¬ c) (e : Ev f r) : Ev (fun k => if c then g k else f k) r := Ev.congr (fun k => if_neg h) e
/-! the inverse, by Euclid -/
theorem neg_lt_tmod (s : Int) {p : Int} (hp : 0 < p) : -p < Int.tmod s p := by
  have h1 := Int.tmod_lt_of_pos (-s) hp
  rw [Int.neg_tmod] at h1
  omega
theorem gcd_step (x y : Nat) (hy : 0 < y) : Nat.gcd y (x % y) = Nat.gcd x y := by rw [Nat.gcd_comm y, ← Nat.gcd_rec, Nat.gcd_comm]
theorem inv_loop (p a : Nat) (hp : 2 ≤ p) (hp2 : p ≤ 2000000000) : ∀ (y x : Nat) (s t : Int), x ≤ p → y ≤ p → 1 ≤ x → Nat.gcd x y = 1 →
    ((p : Int) ∣ s * a - x) → ((p : Int) ∣ t * a - y) → (0 ≤ s ∧ t ≤ 0 ∧ s * y - t * x = p ∨ s ≤ 0 ∧ 0 ≤ t ∧ t * x - s * y = p) →
    ∃ r : Nat, Ev (fun k => ring_Inv.l0 k p x y s t) ((r : Int), 0) ∧ r < p ∧ (p : Int) ∣ (r : Int) * a - 1 := by
  intro y
  induction y using Nat.strongRecOn with
  | _ y ih =>
    intro x s t hx hy h1 hg hs ht hst
    have ep : ¬ ((p : Int) = 0) := by omega
    by_cases h0 : y = 0
    · subst h0
      have hx1 : x = 1 := by simpa using hg
      subst hx1
      have hb1 := Int.tmod_lt_of_pos s (show (0 : Int) < p by omega)
      have hb2 := neg_lt_tmod s (show (0 : Int) < p by omega)
      have hnn : 0 ≤ Int.tmod s p + p := by omega
      have hr0 : 0 ≤ Int.tmod (Int.tmod s p + p) p := Int.tmod_nonneg _ hnn
      have hr1 := Int.tmod_lt_of_pos (Int.tmod s p + p) (show (0 : Int) < p by omega)
      refine ⟨(Int.tmod (Int.tmod s p + p) p).toNat, Ev.step (f := fun _ => some ((((Int.tmod (Int.tmod s p + p) p).toNat : Nat) : Int), 0)) (fun k => ?_) (Ev.now _), by omega, ?_⟩
      · simp only [ring_Inv.l0]
        rw [if_neg (by omega), if_neg ep, w64 (by omega) (by omega), Int.toNat_of_nonneg hr0]
      · rw [Int.toNat_of_nonneg hr0]
        have e1 : (p : Int) ∣ Int.tmod (Int.tmod s p + p) p - s := by
          have a1 := Int.tmod_add_mul_tdiv (Int.tmod s p + p) p
          have a2 := Int.tmod_add_mul_tdiv s p
          refine ⟨1 - Int.tdiv (Int.tmod s p + p) p - Int.tdiv s p, ?_⟩
          rw [Int.mul_sub, Int.mul_sub]
          omega
        have e2 : Int.tmod (Int.tmod s p + p) p * a - 1 = (Int.tmod (Int.tmod s p + p) p - s) * a + (s * a - (1 : Nat)) := by
          rw [Int.sub_mul]
          omega
        rw [e2]
        exact Int.dvd_add (Int.dvd_trans e1 (Int.dvd_mul_right _ _)) hs
    · have hy0 : 0 < y := Nat.pos_of_ne_zero h0
      have hlt := Nat.mod_lt x hy0
      have hdm := Nat.div_add_mod x y
      have hqy : (x / y : Nat) * y ≤ x := Nat.div_mul_le_self x y
      have hqx : x / y ≤ x := Nat.div_le_self x y
      have hqm : x / y * y + x % y = x := by rw [Nat.mul_comm]; exact hdm
      obtain ⟨q, hqq⟩ : ∃ q : Nat, q = x / y := ⟨_, rfl⟩
      rw [← hqq] at hqy hqx hqm
      have hxy : (x : Int) = q * y + ((x % y : Nat) : Int) := by
        rw [mulN]
        omega
      -- the bounds
      have key : (0 ≤ t ∧ s - q * t ≤ 0 ∧ t * ((x % y : Nat) : Int) - (s - q * t) * y = p) ∨ (t ≤ 0 ∧ 0 ≤ s - q * t ∧ (s - q * t) * y - t * ((x % y : Nat) : Int) = p) := by
        rcases hst with ⟨a1, a2, a3⟩ | ⟨a1, a2, a3⟩
        · right
          refine ⟨a2, ?_, ?_⟩
          · have : (q : Int) * t ≤ 0 := Int.mul_nonpos_of_nonneg_of_nonpos (by omega) a2
            omega
          · rw [hxy] at a3
            rw [← a3]
            generalize ((x % y : Nat) : Int) = z
            grind
        · left
          refine ⟨a2, ?_, ?_⟩
          · have : 0 ≤ (q : Int) * t := Int.mul_nonneg (by omega) a2
            omega
          · rw [hxy] at a3
            rw [← a3]
            generalize ((x % y : Nat) : Int) = z
            grind
      have hbd : -(p : Int) ≤ s - q * t ∧ s - q * t ≤ p := by
        rcases key with ⟨a1, a2, a3⟩ | ⟨a1, a2, a3⟩
        · have b1 : 0 ≤ t * ((x % y : Nat) : Int) := Int.mul_nonneg a1 (by omega)
          have b2 : -(s - q * t) * 1 ≤ -(s - q * t) * y := Int.mul_le_mul_of_nonneg_left (by omega) (by omega)
          rw [Int.neg_mul, Int.neg_mul] at b2
          omega
        · have b1 : t * ((x % y : Nat) : Int) ≤ 0 := Int.mul_nonpos_of_nonpos_of_nonneg a1 (by omega)
          have b2 : (s - q * t) * 1 ≤ (s - q * t) * y := Int.mul_le_mul_of_nonneg_left (by omega) (by omega)
          omega
      have hsb : -(p : Int) ≤ s ∧ s ≤ p := by
        rcases hst with ⟨a1, a2, a3⟩ | ⟨a1, a2, a3⟩
        · have b1 : t * (x : Int) ≤ 0 := Int.mul_nonpos_of_nonpos_of_nonneg a2 (by omega)
          have b2 : s * 1 ≤ s * y := Int.mul_le_mul_of_nonneg_left (by omega) a1
          omega
        · have b1 : 0 ≤ t * (x : Int) := Int.mul_nonneg a2 (by omega)
          have b2 : -s * 1 ≤ -s * y := Int.mul_le_mul_of_nonneg_left (by omega) (by omega)
          rw [Int.neg_mul, Int.neg_mul] at b2
          omega
      obtain ⟨r, hE, hr1, hr2⟩ := ih (x % y) hlt y t (s - q * t) hy (by omega) hy0 (by rw [gcd_step x y hy0]; exact hg) ht (by
        have e5 : (s - q * t) * a - ((x % y : Nat) : Int) = (s * a - x) - q * (t * a - y) := by
          rw [hxy]
          generalize ((x % y : Nat) : Int) = z
          grind
        rw [e5]
        exact Int.dvd_sub hs (Int.dvd_trans ht (Int.dvd_mul_left _ _))) (by
        rcases key with h | h
        · exact .inl ⟨h.1, h.2.1, h.2.2⟩
        · exact .inr ⟨h.1, h.2.1, h.2.2⟩)
      refine ⟨r, Ev.step (fun k => ?_) hE, hr1, hr2⟩
      have b1 : q ≤ 9223372036854775807 := by omega
      have b2 : q * y ≤ 9223372036854775807 := by omega
      have b3 : -9223372036854775808 ≤ (x : Int) - ((q * y : Nat) : Int) := by omega
      have b4 : (x : Int) - ((q * y : Nat) : Int) ≤ 9223372036854775807 := by omega
      have b5 : (x : Int) - ((q * y : Nat) : Int) = ((x % y : Nat) : Int) := by omega
      have b6 : -9223372036854775808 ≤ (q : Int) * t := by omega
      have b7 : (q : Int) * t ≤ 9223372036854775807 := by omega
      have b8 : -9223372036854775808 ≤ s - q * t := by omega
      have b9 : s - q * t ≤ 9223372036854775807 := by omega
      have c1 : (y : Int) > 0 := by omega
      have c2 : ¬ ((y : Int) = 0) := by omega
      simp only [ring_Inv.l0]
      rw [if_pos c1, if_neg c2, tdivN, ← hqq, w64N b1, mulN, w64N b2, w64 b3 b4, b5, w64 b6 b7, w64 b8 b9]
theorem dvd_emod {p r a : Nat} (hp : 2 ≤ p) (h : (p : Int) ∣ (r : Int) * a - 1) : a * r % p = 1 := by
  obtain ⟨c, hc⟩ := h
  have h1 : ((a * r : Nat) : Int) = 1 + p * c := by
    rw [← mulN, Int.mul_comm]
    omega
  have h2 : ((a * r : Nat) : Int) % (p : Int) = 1 := by
    rw [h1, Int.add_mul_emod_self_left]
    exact Int.emod_eq_of_lt (by omega) (by omega)
  have h3 : ((a * r % p : Nat) : Int) = 1 := by rw [Int.natCast_emod]; exact h2
  omega
theorem inv_start {p a : Nat} (hp : Pr p) (hp2 : p ≤ 2000000000) (h1 : 1 ≤ a) (h2 : a < p) : Ev (fun k => ring_Inv.l0 k p a p 1 0) (((a ^ (p - 2) % p : Nat) : Int), 0) := by
  have hp0 := hp.1
  have hna := hp.not_dvd_lt (by omega) h2
  obtain ⟨r, hE, hr1, hr2⟩ := inv_loop p a hp0 hp2 p a 1 0 (by omega) (by omega) h1 (by rw [Nat.gcd_comm]; exact hp.coprime hna) (by simp) (by simp) (.inl ⟨by omega, by omega, by simp⟩)
  have hr3 := dvd_emod hp0 hr2
  have he := inv_unique hp hna hr1 (Nat.mod_lt _ (by omega)) hr3 (fermat_inv hp hna)
  rw [he] at hE
  exact hE
theorem ring_Inv_ev {p a : Nat} (hp : Pr p) (hp2 : p ≤ 2000000000) (h1 : 1 ≤ a) (h2 : a < p) :
    Ev (fun k => ring_Inv.f k p a) (((a ^ (p - 2) % p : Nat) : Int), 0) ∧ Ev (fun k => fringeref10_Inv.f k p a) (((a ^ (p - 2) % p : Nat) : Int), 0) := by
  have hp0 := hp.1
  have hb := (both_ev p a).2.2 ⟨p, rfl, hp2, hp⟩ (by omega) (by omega)
  constructor
  · refine Ev.congr (fun k => by unfold ring_Inv.f; rfl) (Ev.bind hb.1 ?_)
    exact evp rfl (evn (by omega) (inv_start hp hp2 h1 h2))
  · refine Ev.congr (fun k => by unfold fringeref10_Inv.f; rfl) (Ev.bind hb.2 ?_)
    rw [show wrap64 ((p : Int) - 2) = ((p - 2 : Nat) : Int) by rw [w64 (by omega) (by omega)]; omega]
    exact evp rfl (evn (by omega) (Ev.bind (f := fun _ t120 => some (t120, 0)) (Power_ev (n := p - 2) hp0 hp2 (by omega) h2) (Ev.now _)))
/-- What Inv comes to, in both texts. -/
theorem inv_all (p a : Int) : ∃ r, Ev (fun k => ring_Inv.f k p a) r ∧ Ev (fun k => fringeref10_Inv.f k p a) r := by
  have c1 : ∀ k, ring_Inv.f k p a = (ring_both.f k p a).bind fun t118 => (if t118 = 0 then (if a = 0 then (some (0, 18)) else (ring_Inv.l0 k p a p 1 0)) else (some (0, t118))) := fun k => by unfold ring_Inv.f; rfl
  have c2 : ∀ k, fringeref10_Inv.f k p a = (fringeref10_Both.f k p a).bind fun t119 => (if t119 = 0 then (if a = 0 then (some (0, 18)) else ((fringeref10_Power.f k p a (wrap64 (p - 2))).bind fun t120 => (some (t120, 0)))) else ((fringeref10_Both.f k p a).bind fun t121 => (some (0, t121)))) := fun k => by unfold fringeref10_Inv.f; rfl
  by_cases hm : Mod p
  · by_cases h1 : a < 0 ∨ p ≤ a
    · obtain ⟨e1, e2⟩ := (both_ev p a).2.1 hm h1
      refine ⟨(0, 8), Ev.congr c1 (Ev.bind e1 ?_), Ev.congr c2 (Ev.bind e2 ?_)⟩
      · exact evn (by decide) (Ev.now _)
      · exact evn (by decide) (Ev.bind e2 (Ev.now _))
    · obtain ⟨q, rfl, h2, h3⟩ := hm
      obtain ⟨b, rfl⟩ := Int.eq_ofNat_of_zero_le (show 0 ≤ a by omega)
      by_cases h0 : b = 0
      · subst h0
        obtain ⟨e1, e2⟩ := (both_ev q ((0 : Nat) : Int)).2.2 ⟨q, rfl, h2, h3⟩ (by omega) (by omega)
        refine ⟨(0, 18), Ev.congr c1 (Ev.bind e1 ?_), Ev.congr c2 (Ev.bind e2 ?_)⟩
        · exact evp rfl (evp (by omega) (Ev.now _))
        · exact evp rfl (evp (by omega) (Ev.now _))
      · exact ⟨_, (ring_Inv_ev h3 h2 (by omega) (by omega)).1, (ring_Inv_ev h3 h2 (by omega) (by omega)).2⟩
  · obtain ⟨e1, e2⟩ := (both_ev p a).1 hm
    refine ⟨(0, 2), Ev.congr c1 (Ev.bind e1 ?_), Ev.congr c2 (Ev.bind e2 ?_)⟩
    · exact evn (by decide) (Ev.now _)
    · exact evn (by decide) (Ev.bind e2 (Ev.now _))
/-- What Pow comes to. -/
theorem pow_ev {p a n : Nat} (hp : Pr p) (hp2 : p ≤ 2000000000) (h2 : a < p) (hn : n ≤ 9223372036854775807) :
    Ev (fun k => ring_Pow.f k p a n) (((a ^ n % p : Nat) : Int), 0) := by
  have hb := (both_ev p a).2.2 ⟨p, rfl, hp2, hp⟩ (by omega) (by omega)
  refine Ev.congr (fun k => by unfold ring_Pow.f; rfl) (Ev.bind hb.1 ?_)
  exact evp rfl (evn (by omega) (Ev.bind (f := fun _ t120 => some (t120, 0)) (power_ev hp.1 hp2 hn h2) (Ev.now _)))
theorem check_all (p : Int) : ∃ r, Ev (fun k => ring_Check.f k p) r ∧ Ev (fun k => fringeref10_Check.f k p) r := by
  by_cases hm : Mod p
  · exact ⟨0, (ring_Check_ev p).1 hm, (refCheck_ev p).1 hm⟩
  · exact ⟨2, (ring_Check_ev p).2 hm, (refCheck_ev p).2 hm⟩
theorem wf64 {x : Int} (h : (Lit.int .i64 x).wf = true) : -9223372036854775808 ≤ x ∧ x ≤ 9223372036854775807 := by
  simp only [Lit.wf, IntKind.min, IntKind.max, IntKind.signed, IntKind.bits, Bool.and_eq_true, decide_eq_true_eq, if_true] at h
  omega
end Go.Proofs.Ytbeidonfmeengaa.RL
