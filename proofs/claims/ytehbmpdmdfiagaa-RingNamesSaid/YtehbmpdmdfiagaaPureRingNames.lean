/- The chapter's examples, limits, the modulus 2 and errors of the ring, reckoned; two great moduli by what is known of primes. -/
import Derived.Test.YtehbmpdmdfiagaaRL3
import Derived.Test.YtehbmpdmdfiagaaPAllx8
set_option linter.unusedVariables false
namespace Go.Proofs.Ytehbmpdmdfiagaa.Pure
open Go.RowKit Go.Proofs.Ytehbmpdmdfiagaa.PAll Go.Proofs.YtehbmpdmdfiagaaW.PrintWords Go.Proofs.YtehbmpdmdfiagaaW.PrintLast Go.Proofs.Ytehbmpdmdfiagaa.RL RM

/-- No divisor from d on, m numbers. -/
def nd (p : Nat) : Nat → Nat → Bool
  | 0, _ => true
  | m + 1, d => p % d != 0 && nd p m (d + 1)
theorem nd_spec {p : Nat} : ∀ (m d : Nat), nd p m d = true → ∀ e, d ≤ e → e < d + m → ¬ e ∣ p
  | 0, d, _, e, h1, h2 => by omega
  | m + 1, d, h, e, h1, h2 => by
    rw [nd, Bool.and_eq_true] at h
    by_cases c : e = d
    · subst c
      intro hd
      have := Nat.mod_eq_zero_of_dvd hd
      have h3 := h.1
      rw [bne_iff_ne] at h3
      exact h3 this
    · exact nd_spec m (d + 1) h.2 e (by omega) (by omega)
set_option maxRecDepth 1000000 in
theorem ndA : nd 1999999973 44720 2 = true := by decide +kernel
set_option maxRecDepth 1000000 in
theorem ndB : nd 1000000007 44720 2 = true := by decide +kernel
theorem pflA : pfl 1999999973 = [1999999973] := pfl_self (d := 44722) (by decide) (fun e h1 h2 => nd_spec _ _ ndA e h1 (by omega)) (by decide)
theorem prA : Pr 1999999973 := pfl_prime 1999999973 _ (by rw [pflA]; exact List.mem_singleton.2 rfl)
theorem pflB : pfl 1000000007 = [1000000007] := pfl_self (d := 44722) (by decide) (fun e h1 h2 => nd_spec _ _ ndB e h1 (by omega)) (by decide)
theorem prB : Pr 1000000007 := pfl_prime 1000000007 _ (by rw [pflB]; exact List.mem_singleton.2 rfl)
theorem ckA : Ev (fun k => ring_Check.f k 1999999973) 0 := (ring_Check_ev 1999999973).1 ⟨1999999973, rfl, by decide, prA⟩
theorem ckB : Ev (fun k => ring_Check.f k 1000000007) 0 := (ring_Check_ev 1000000007).1 ⟨1000000007, rfl, by decide, prB⟩
theorem powG {p n : Nat} (hp : Pr p) (hp2 : p ≤ 2000000000) (h2 : 2 < p) (hn : n = p - 1) : Ev (fun k => ring_Pow.f k p 2 n) (1, 0) := by
  subst hn
  have h := (pow_ev (p := p) (a := 2) (n := p - 1) hp hp2 h2 (by omega)).1
  rw [fermat hp (hp.not_dvd_lt (by decide) h2)] at h
  exact h
theorem powB : Ev (fun k => ring_Pow.f k 1000000007 2 1000000006) (1, 0) := powG (p := 1000000007) (n := 1000000006) prB (by decide) (by decide) rfl
theorem facA : Ev (fun k => ring_Factors.f k 1999999973) ([1999999973], 0) := by
  have h := ring_Factors_ev (n := 1999999973) (by decide) (by decide)
  rw [pflA] at h
  exact h
set_option maxRecDepth 1000000 in
theorem RingNames : fringelaw10_RingNames.Pure := by
  refine Ev.rounds (Ev.congr (fun k => fringelaw10_RingNames.f.eq_1 k) ?_)
  refine Ev.bind (Ev.of (ring_Check.mono 2) (k := 60) (r := 0) (by decide +kernel)) (evp rfl ?_)
  refine Ev.bind (Ev.of (ring_Check.mono 3) (k := 60) (r := 0) (by decide +kernel)) (evp rfl ?_)
  refine Ev.bind (Ev.of (ring_Check.mono 1) (k := 60) (r := 2) (by decide +kernel)) (evp rfl ?_)
  refine Ev.bind (Ev.of (ring_Check.mono 0) (k := 60) (r := 2) (by decide +kernel)) (evp rfl ?_)
  refine Ev.bind (Ev.of (ring_Check.mono (-7)) (k := 60) (r := 2) (by decide +kernel)) (evp rfl ?_)
  refine Ev.bind (Ev.of (ring_Check.mono 9) (k := 60) (r := 2) (by decide +kernel)) (evp rfl ?_)
  refine Ev.bind ckA (evp rfl ?_)
  refine Ev.bind (Ev.of (ring_Check.mono 2000000011) (k := 60) (r := 2) (by decide +kernel)) (evp rfl ?_)
  refine Ev.bind (Ev.of (ring_Check.mono 9223372036854775807) (k := 60) (r := 2) (by decide +kernel)) (evp rfl ?_)
  refine Ev.bind ckB ?_
  refine Ev.bind (Ev.of (ring_Generator.mono 2) (k := 60) (r := (1, 0)) (by decide +kernel)) ?_
  refine Ev.bind (Ev.of (ring_Inv.mono 2 1) (k := 60) (r := (1, 0)) (by decide +kernel)) ?_
  refine Ev.bind (Ev.of (ring_Order.mono 2 1) (k := 60) (r := (1, 0)) (by decide +kernel)) ?_
  refine Ev.bind (Ev.of (ring_Root.mono 2 1) (k := 60) (r := (1, 0)) (by decide +kernel)) ?_
  refine Ev.bind (Ev.of (ring_Pow.mono 5 0 0) (k := 60) (r := (1, 0)) (by decide +kernel)) ?_
  refine Ev.bind (Ev.of (ring_Pow.mono 5 0 3) (k := 60) (r := (0, 0)) (by decide +kernel)) ?_
  refine Ev.bind powB ?_
  refine Ev.bind (Ev.now true) (evp rfl (Ev.bind (Ev.now true) (evp rfl (Ev.bind (Ev.now true) (evp rfl (Ev.bind (Ev.now true) (evp rfl (Ev.bind (Ev.now true) (evp rfl (Ev.bind (Ev.now true) (evp rfl (Ev.bind (Ev.now true) ?_))))))))))))
  refine Ev.bind (Ev.of (ring_Pow.mono 5 5 1) (k := 60) (r := (0, 8)) (by decide +kernel)) ?_
  refine Ev.bind (Ev.of (ring_Pow.mono 5 (-1) 1) (k := 60) (r := (0, 8)) (by decide +kernel)) ?_
  refine Ev.bind (Ev.of (ring_Pow.mono 5 1 (-1)) (k := 60) (r := (0, 2)) (by decide +kernel)) ?_
  refine Ev.bind (Ev.of (ring_Pow.mono 4 9 (-1)) (k := 60) (r := (0, 2)) (by decide +kernel)) ?_
  refine Ev.bind (Ev.of (ring_Inv.mono 5 0) (k := 60) (r := (0, 18)) (by decide +kernel)) ?_
  refine Ev.bind (Ev.of (ring_Order.mono 5 0) (k := 60) (r := (0, 18)) (by decide +kernel)) ?_
  refine Ev.bind (Ev.of (ring_Order.mono 5 5) (k := 60) (r := (0, 8)) (by decide +kernel)) ?_
  refine Ev.bind (Ev.of (ring_Root.mono 5 0) (k := 60) (r := (0, 2)) (by decide +kernel)) ?_
  refine Ev.bind (Ev.of (ring_Root.mono 5 3) (k := 60) (r := (0, 6)) (by decide +kernel)) ?_
  refine Ev.bind (Ev.of (ring_Root.mono 6 0) (k := 60) (r := (0, 2)) (by decide +kernel)) ?_
  refine Ev.bind (Ev.of (ring_Factors.mono 1) (k := 60) (r := ([], 0)) (by decide +kernel)) ?_
  refine Ev.bind (Ev.of (ring_Factors.mono 0) (k := 60) (r := ([], 2)) (by decide +kernel)) ?_
  refine Ev.bind (Ev.of (ring_Factors.mono 2000000001) (k := 60) (r := ([], 2)) (by decide +kernel)) ?_
  refine Ev.bind facA ?_
  refine evp rfl (evp rfl (evp rfl (evp rfl (evp rfl (evp rfl (evp rfl (evp rfl (evp rfl (evp rfl (evp rfl (evp rfl (evp rfl (evp rfl (evp rfl ?_))))))))))))))
  exact Ev.bind (same_ev _ (by decide)) (evp rfl (evp rfl (evp rfl (Ev.bind (Ev.now true) (Ev.now true)))))
end Go.Proofs.Ytehbmpdmdfiagaa.Pure
