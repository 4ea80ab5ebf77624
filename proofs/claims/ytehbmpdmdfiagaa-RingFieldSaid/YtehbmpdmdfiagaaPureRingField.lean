/- An element times its inverse is 1, the inverse of the inverse is the element, and powers multiply as they should, for every input. -/
import Derived.Test.YtehbmpdmdfiagaaRL3
import Derived.Test.YtehbmpdmdfiagaaPAllx9
set_option linter.unusedVariables false
namespace Go.Proofs.Ytehbmpdmdfiagaa.Pure
open Go.RowKit Go.Proofs.Ytehbmpdmdfiagaa.PAll Go.Proofs.YtehbmpdmdfiagaaW.PrintWords Go.Proofs.YtehbmpdmdfiagaaW.PrintLast Go.Proofs.Ytehbmpdmdfiagaa.RL RM

theorem field_j0 (p a m n : Int) : Ev (fun k => fringelaw10_RingField.j0 k p a m n true) true := by
  refine Ev.step (fun k => fringelaw10_RingField.j0.eq_2 _ _ _ _ _ k) ?_
  exact evp rfl (Ev.now true)
theorem field_j1 {p a m n : Nat} (hp : Pr p) (hp2 : p ≤ 2000000000) (ha : a < p) (hm : m ≤ 1000000000) (hn : n ≤ 1000000000) : Ev (fun k => fringelaw10_RingField.j1 k p a m n) true := by
  have h0 := hp.1
  have hx := Nat.mod_lt (a ^ m) (show 0 < p by omega)
  have hy := Nat.mod_lt (a ^ n) (show 0 < p by omega)
  have e1 : wrap64 ((m : Int) + (n : Int)) = ((m + n : Nat) : Int) := by rw [w64 (by omega) (by omega)]; rfl
  refine Ev.step (fun k => fringelaw10_RingField.j1.eq_2 _ _ _ _ k) ?_
  rw [e1]
  refine Ev.bind (pow_ev (n := m) hp hp2 ha (by omega)).1 (Ev.bind (pow_ev (n := n) hp hp2 ha (by omega)).1 (Ev.bind (pow_ev (n := m + n) hp hp2 ha (by omega)).1 (Ev.bind (pow_ev (n := p) hp hp2 ha (by omega)).1 ?_)))
  refine evp rfl (evp rfl (evp rfl (evp (by simp only; omega) (evp (by simp only; omega) (evp (by simp only; omega) (evp (by simp only; omega) (evn (by omega) (evp ?_ (evp rfl (evp ?_ (Ev.now true)))))))))))
  · rw [mulmod hx hy hp2, pow_mod_mul]
  · rw [fermat_p hp ha]

theorem RingField : fringelaw10_RingField.Pure := by
  intro p a m n hp ha hm hn
  refine Ev.rounds (Ev.congr (fun k => fringelaw10_RingField.f.eq_1 k p a m n) ?_)
  by_cases hM : Mod p
  · by_cases h1 : a < 0 ∨ p ≤ a
    · exact Ev.bind ((both_ev p a).2.1 hM h1).2 (evn (by decide) (field_j0 _ _ _ _))
    · refine Ev.bind ((both_ev p a).2.2 hM (by omega) (by omega)).2 (evp rfl ?_)
      by_cases h2 : m < 0
      · exact evp h2 (field_j0 _ _ _ _)
      refine evn h2 ?_
      by_cases h3 : n < 0
      · exact evp h3 (field_j0 _ _ _ _)
      refine evn h3 ?_
      by_cases h4 : m > 1000000000
      · exact evp h4 (field_j0 _ _ _ _)
      refine evn h4 ?_
      by_cases h5 : n > 1000000000
      · rw [decide_eq_true h5]; exact field_j0 _ _ _ _
      rw [decide_eq_false h5]
      obtain ⟨q, rfl, hq2, hq⟩ := hM
      obtain ⟨b, rfl⟩ := Int.eq_ofNat_of_zero_le (show 0 ≤ a by omega)
      obtain ⟨m, rfl⟩ := Int.eq_ofNat_of_zero_le (show 0 ≤ m by omega)
      obtain ⟨n, rfl⟩ := Int.eq_ofNat_of_zero_le (show 0 ≤ n by omega)
      have h0 := hq.1
      have hj1 := field_j1 (a := b) (m := m) (n := n) hq hq2 (by omega) (by omega) (by omega)
      refine Ev.step (fun k => fringelaw10_RingField.j0.eq_2 _ _ _ _ _ k) (evn (by decide) ?_)
      by_cases hb : b = 0
      · subst hb
        have hI : Ev (fun k => ring_Inv.f k q ((0 : Nat) : Int)) (0, 18) := by
          refine Ev.congr (fun k => ring_Inv.f.eq_1 k _ _) (Ev.bind ((both_ev q ((0 : Nat) : Int)).2.2 ⟨q, rfl, hq2, hq⟩ (by omega) (by omega)).1 ?_)
          exact evp rfl (evp (by omega) (Ev.now _))
        exact Ev.bind hI (evp (by omega) (evp rfl hj1))
      · have hna := hq.not_dvd_lt (a := b) (by omega) (by omega)
        have hlt := Nat.mod_lt (b ^ (q - 2)) (show 0 < q by omega)
        have hi := fermat_inv hq hna
        have hI := (ring_Inv_ev hq hq2 (a := b) (by omega) (by omega)).1
        generalize b ^ (q - 2) % q = c at hlt hi hI
        have hc0 : 1 ≤ c := by
          rcases Nat.eq_zero_or_pos c with h | h
          · subst h; simp at hi
          · exact h
        have hnc := hq.not_dvd_lt (a := c) (by omega) hlt
        have hI2 := (ring_Inv_ev hq hq2 (a := c) (by omega) (by omega)).1
        have hcc : c ^ (q - 2) % q = b := inv_unique hq hnc (Nat.mod_lt _ (by omega)) (by omega) (fermat_inv hq hnc) (by rw [Nat.mul_comm]; exact hi)
        rw [hcc] at hI2
        refine Ev.bind hI (evn (by omega) (Ev.bind hI2 (evp rfl (evn (by simp only; omega) (evn (by simp only; omega) (evn (by omega) (evp ?_ (evp rfl (evp rfl hj1)))))))))
        rw [mulmod (by omega) hlt hq2, hi]; rfl
  · exact Ev.bind ((both_ev p a).1 hM).2 (evn (by decide) (field_j0 _ _ _ _))

end Go.Proofs.Ytehbmpdmdfiagaa.Pure
