/- The root for n has the order n, and its powers with exponents below n are all different, for every input. -/
import Derived.Test.YtehbmpdmdfiagaaRL3
import Derived.Test.YtehbmpdmdfiagaaPAllx6
set_option linter.unusedVariables false
namespace Go.Proofs.Ytehbmpdmdfiagaa.Pure
open Go.RowKit Go.Proofs.Ytehbmpdmdfiagaa.PAll Go.Proofs.YtehbmpdmdfiagaaW.PrintWords Go.Proofs.YtehbmpdmdfiagaaW.PrintLast Go.Proofs.Ytehbmpdmdfiagaa.RL RM

theorem roots_j0 (p n : Int) : Ev (fun k => fringelaw10_RingRoots.j0 k p n true) true := by
  refine Ev.step (fun k => fringelaw10_RingRoots.j0.eq_2 _ _ _ k) ?_
  exact evp rfl (Ev.now true)
/-- The first i powers of r. -/
def pows (p r i : Nat) : List Nat := (List.range i).map (fun j => r ^ j % p)
theorem pows_length (p r i : Nat) : (pows p r i).length = i := by simp [pows]
theorem pows_succ (p r i : Nat) : pows p r (i + 1) = pows p r i ++ [r ^ i % p] := by simp [pows, List.range_succ]
theorem roots_inner {p r n : Nat} (hp : Pr p) (hr : ¬ p ∣ r) (hO : Ord p r n) (hn : n ≤ 200) {i : Nat} (hi : i < n) {res : Bool} : 
    (Ev (fun k => fringelaw10_RingRoots.l0 k p n r (cl (pows p r (i + 1))) (Int.tmod (wrap64 (((r ^ i % p : Nat) : Int) * (r : Int))) p) ((i + 1 : Nat) : Int)) res) →
    ∀ (m j : Nat), j + m = i → Ev (fun k => fringelaw10_RingRoots.l1 k p n r (cl (pows p r i)) ((r ^ i % p : Nat) : Int) i j) res := by
  intro hE m
  have h0 := hp.1
  induction m with
  | zero =>
    intro j hj
    have e : j = i := by omega
    subst e
    refine Ev.step (fun k => fringelaw10_RingRoots.l1.eq_2 _ _ _ _ _ _ _ k) ?_
    rw [cl_length, pows_length, succ1 (by omega)]
    refine evn (by omega) (evp (by omega) (evn (by omega) ?_))
    rw [pows_succ, cl_append] at hE
    exact hE
  | succ m ih =>
    intro j hj
    refine Ev.step (fun k => fringelaw10_RingRoots.l1.eq_2 _ _ _ _ _ _ _ k) ?_
    rw [cl_length, pows_length, rd_cl _ j (by rw [pows_length]; omega), succ1 (by omega)]
    refine evp (by omega) (evp (by omega) (evn ?_ (ih (j + 1) (by omega))))
    have hd := Ord.distinct hp hr hO (i := j) (j := i) (by omega) hi
    simp only [pows, List.getElem_map, List.getElem_range]
    omega
theorem roots_loop {p r n : Nat} (hp : Pr p) (hp2 : p ≤ 2000000000) (hrp : r < p) (hr : ¬ p ∣ r) (hO : Ord p r n) (hn : n ≤ 200) : ∀ (m i : Nat), i + m = n →
    Ev (fun k => fringelaw10_RingRoots.l0 k p n r (cl (pows p r i)) ((r ^ i % p : Nat) : Int) i) true := by
  have h0 := hp.1
  intro m
  induction m with
  | zero =>
    intro i hi
    have e : i = n := by omega
    subst e
    refine Ev.step (fun k => fringelaw10_RingRoots.l0.eq_2 _ _ _ _ _ _ k) (evn (by omega) (evp ?_ (Ev.now true)))
    rw [hO.2.1]; rfl
  | succ m ih =>
    intro i hi
    refine Ev.step (fun k => fringelaw10_RingRoots.l0.eq_2 _ _ _ _ _ _ k) (evp (by omega) ?_)
    refine roots_inner hp hr hO hn (by omega) ?_ i 0 (Nat.zero_add _)
    have hlt := Nat.mod_lt (r ^ i) (show 0 < p by omega)
    have e1 : r ^ i % p * r % p = r ^ (i + 1) % p := by
      have := pow_mod_mul p r i 1
      rw [Nat.pow_one, Nat.mod_eq_of_lt hrp] at this
      exact this
    rw [mulmod hlt hrp hp2, e1]
    exact ih (i + 1) (by omega)

theorem RingRoots : fringelaw10_RingRoots.Pure := by
  intro p n hp hn
  refine Ev.rounds (Ev.congr (fun k => fringelaw10_RingRoots.f.eq_1 k p n) ?_)
  by_cases hM : Mod p
  · refine Ev.bind ((refCheck_ev p).1 hM) (evp rfl ?_)
    by_cases h1 : n < 1
    · exact evp h1 (roots_j0 _ _)
    refine evn h1 ?_
    by_cases h2 : n > 200
    · rw [decide_eq_true h2]; exact roots_j0 _ _
    rw [decide_eq_false h2]
    obtain ⟨q, rfl, hq2, hq⟩ := hM
    obtain ⟨n, rfl⟩ := Int.eq_ofNat_of_zero_le (show 0 ≤ n by omega)
    have h0 := hq.1
    refine Ev.step (fun k => fringelaw10_RingRoots.j0.eq_2 _ _ _ k) (evn (by decide) ?_)
    rw [pred1 h0 hq2, tmodN]
    by_cases hd : n ∣ q - 1
    · have hR := (Root_ev hq hq2 (n := n) (by omega) hd).1
      have hO := root_ord hq (gen_ord hq) (n := n) (by omega) hd
      have hlt := Nat.mod_lt (gen q ^ ((q - 1) / n)) (show 0 < q by omega)
      generalize gen q ^ ((q - 1) / n) % q = r at hR hO hlt
      have hr0 : 1 ≤ r := by
        rcases Nat.eq_zero_or_pos r with h | h
        · subst h
          have := hO.2.1
          rw [Nat.zero_pow (by omega)] at this
          simp at this
        · exact h
      have hnr := hq.not_dvd_lt (a := r) (by omega) hlt
      have hor : ordr q r = n := (ordl_pfl hq hnr).1.unique h0 hO
      refine Ev.bind hR (evn (by omega) (evp (by rw [Nat.mod_eq_zero_of_dvd hd]; rfl) (Ev.bind (Order_ev hq hq2 hr0 hlt).1 (evp rfl (evp rfl ?_)))))
      have e1 : (((ordr q r : Nat) : Int) != (n : Int)) = false := by rw [hor]; simp
      rw [e1]
      refine Ev.step (fun k => fringelaw10_RingRoots.j1.eq_2 _ _ _ _ k) (evn (by decide) ?_)
      have := roots_loop hq hq2 hlt hnr hO (by omega) n 0 (Nat.zero_add _)
      rw [Nat.pow_zero, Nat.mod_eq_of_lt (by omega)] at this
      exact this
    · have hne : ¬ ((((q - 1) % n : Nat) : Int) = 0) := fun h => hd (Nat.dvd_of_mod_eq_zero (by omega))
      refine Ev.bind (Root_none (n := (n : Int)) hq hq2 (by omega) (by rw [tmodN]; exact hne)).1 (evn (by omega) (evn hne (evp rfl (Ev.now true))))
  · exact Ev.bind ((refCheck_ev p).2 hM) (evn (by decide) (roots_j0 _ _))

end Go.Proofs.Ytehbmpdmdfiagaa.Pure
