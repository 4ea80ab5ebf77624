/- The order of an element divides p - 1, its power is 1 and no power with a prime factor less is, and no element below the generator has its order, for every input. -/
import Derived.Test.YtehbmpdmdfiagaaRL3
import Derived.Test.YtehbmpdmdfiagaaPAllx5
set_option linter.unusedVariables false
namespace Go.Proofs.Ytehbmpdmdfiagaa.Pure
open Go.RowKit Go.Proofs.Ytehbmpdmdfiagaa.PAll Go.Proofs.YtehbmpdmdfiagaaW.PrintWords Go.Proofs.YtehbmpdmdfiagaaW.PrintLast Go.Proofs.Ytehbmpdmdfiagaa.RL RM

theorem orders_j0 (p a b : Int) : Ev (fun k => fringelaw10_RingOrders.j0 k p a b true) true := by
  refine Ev.step (fun k => fringelaw10_RingOrders.j0.eq_2 _ _ _ _ k) ?_
  exact evp rfl (Ev.now true)
theorem orders_end {p b : Nat} (hp : Pr p) (hp2 : p ≤ 2000000000) (hb1 : 1 ≤ b) (hb : b < p) : ∀ (a n : Int) (L : List Int),
    Ev (fun k => fringelaw10_RingOrders.l0 k p a b n L (L.length : Int)) true := by
  intro a n L
  have hp0 := hp.1
  obtain ⟨⟨g1, g2, g3⟩, g4⟩ := gen_spec hp
  refine Ev.step (fun k => fringelaw10_RingOrders.l0.eq_2 _ _ _ _ _ _ k) (evn (by omega) ?_)
  have hog : ordr p (gen p) = p - 1 := (ordl_pfl hp (hp.not_dvd_lt (by omega) g2)).1.unique hp0 (gen_ord hp)
  refine Ev.bind (Generator_ev hp hp2).1 (Ev.bind (Order_ev hp hp2 g1 g2).1 (Ev.bind (Order_ev hp hp2 hb1 hb).1 (evp rfl (evp rfl (evp ?_ (evp rfl ?_))))))
  · rw [pred1 hp0 hp2, hog]
  · by_cases hc : (b : Int) ≥ (gen p : Int)
    · exact evp hc (Ev.now true)
    · refine evn hc (evp ?_ (Ev.now true))
      rw [pred1 hp0 hp2]
      have h1 : ordr p b ≤ p - 1 := ordl_le _ _ _ _
      have h2 : ¬ ordr p b = p - 1 := fun h => g4 b hb1 (by omega) ((ordl_full p b (pfl (p - 1)) (p - 1) (by omega) (fun x hx => (pfl_prime _ x hx).1)).1 h)
      simp only
      omega
theorem orders_loop {p a b : Nat} (hp : Pr p) (hp2 : p ≤ 2000000000) (ha : a < p) (hb1 : 1 ≤ b) (hb : b < p) {n : Nat} (hn : Ord p a n) (hn2 : n ≤ 2000000000) : ∀ (m i : Nat), i + m = (pfl n).length →
    Ev (fun k => fringelaw10_RingOrders.l0 k p a b n (cl (pfl n)) i) true := by
  have hp0 := hp.1
  have hl := pfl_len hn.1 hn2
  intro m
  induction m with
  | zero =>
    intro i hi
    have := orders_end hp hp2 hb1 hb a n (cl (pfl n))
    rw [cl_length] at this
    have e : i = (pfl n).length := by omega
    rw [e]
    exact this
  | succ m ih =>
    intro i hi
    have hlt : i < (pfl n).length := by omega
    have hmem := List.getElem_mem hlt
    have hq := pfl_prime n _ hmem
    have hqd := pfl_dvd hn.1 hmem
    have hq2 := hq.1
    have hdl := Nat.div_le_self n (pfl n)[i]
    have hne := hn.2.2 _ hq hqd
    refine Ev.step (fun k => fringelaw10_RingOrders.l0.eq_2 _ _ _ _ _ _ k) ?_
    rw [rd_cl _ i hlt, cl_length, divN hn2, succ1 (by omega)]
    refine evp (by omega) (evp (by omega) (evn (by omega) (evn (by omega) (evp ?_ (Ev.bind (Power_ev (n := n / (pfl n)[i]) hp0 hp2 (by omega) ha) (evn (by omega) (ih (i + 1) (by omega))))))))
    rw [tmodN, Nat.mod_eq_zero_of_dvd hqd]; rfl

theorem RingOrders : fringelaw10_RingOrders.Pure := by
  intro p a b hp ha hb
  refine Ev.rounds (Ev.congr (fun k => fringelaw10_RingOrders.f.eq_1 k p a b) ?_)
  by_cases hM : Mod p
  · by_cases h1 : a < 0 ∨ p ≤ a
    · exact Ev.bind ((both_ev p a).2.1 hM h1).2 (evn (by decide) (orders_j0 _ _ _))
    · refine Ev.bind ((both_ev p a).2.2 hM (by omega) (by omega)).2 (evp rfl ?_)
      by_cases h2 : b < 0 ∨ p ≤ b
      · exact Ev.bind ((both_ev p b).2.1 hM h2).2 (evn (by decide) (orders_j0 _ _ _))
      · refine Ev.bind ((both_ev p b).2.2 hM (by omega) (by omega)).2 (evp rfl ?_)
        by_cases h3 : a = 0
        · exact evp h3 (orders_j0 _ _ _)
        refine evn h3 ?_
        by_cases h4 : b = 0
        · rw [h4]; exact orders_j0 _ _ _
        have e4 : (b == 0) = false := beq_eq_false_iff_ne.2 h4
        rw [e4]
        obtain ⟨q, rfl, hq2, hq⟩ := hM
        obtain ⟨a, rfl⟩ := Int.eq_ofNat_of_zero_le (show 0 ≤ a by omega)
        obtain ⟨b, rfl⟩ := Int.eq_ofNat_of_zero_le (show 0 ≤ b by omega)
        have h0 := hq.1
        obtain ⟨hO, hOd⟩ := ordl_pfl hq (hq.not_dvd_lt (a := a) (by omega) (by omega))
        have hle : ordr q a ≤ q - 1 := ordl_le _ _ _ _
        have hO1 : 1 ≤ ordr q a := hO.1
        have hOo : Ord q a (ordr q a) := hO
        refine Ev.step (fun k => fringelaw10_RingOrders.j0.eq_2 _ _ _ _ k) (evn (by decide) ?_)
        refine Ev.bind (Order_ev hq hq2 (a := a) (by omega) (by omega)).1 (evp rfl (evn (by simp only; omega) (evn (by simp only; omega) (evp ?_ ?_))))
        · rw [pred1 h0 hq2]
          have hd : ordr q a ∣ q - 1 := hOd
          simp only
          rw [tmodN, Nat.mod_eq_zero_of_dvd hd]; rfl
        · refine Ev.bind (Power_ev (n := ordr q a) h0 hq2 (by omega) (by omega)) ?_
          have e5 : (((a ^ ordr q a % q : Nat) : Int) != 1) = false := by rw [hOo.2.1]; rfl
          rw [e5]
          refine Ev.step (fun k => fringelaw10_RingOrders.j1.eq_2 _ _ _ _ _ k) (evn (by decide) ?_)
          refine Ev.bind (ring_Factors_ev (n := ordr q a) (by omega) (by omega)) (evp rfl ?_)
          exact orders_loop hq hq2 (by omega) (by omega) (by omega) hOo (by omega) _ 0 (Nat.zero_add _)
  · exact Ev.bind ((both_ev p a).1 hM).2 (evn (by decide) (orders_j0 _ _ _))

end Go.Proofs.Ytehbmpdmdfiagaa.Pure
