import Derived.Test.YtpooejjgaobcaaaSF
import Derived.Test.YtpooejjgaobcaaaLG
import Derived.Test.YtpooejjgaobcaaaPAllx39
set_option linter.unusedVariables false
set_option linter.unusedSectionVars false
namespace Go.Proofs.Ytpooejjgaobcaaa.Pure
open Go Go.RowKit Go.Proofs.Ytpooejjgaobcaaa.PAll Go.Proofs.YtpooejjgaobcaaaW.PrintWords Go.Proofs.YtpooejjgaobcaaaW.PrintLast SM SL

theorem powers_t (x y : List Int) (a2 a3 : Int) : Ev (fun k => fringelaw20_SearchPowers.j0 k x y a2 a3 true true) true := Ev.step (fun k => fringelaw20_SearchPowers.j0.eq_2 _ _ _ _ _ _ k) (evp rfl (Ev.now _))
section
variable {x y : List Int} {st : Nat} {d : Int} (hx : str x) (hy : str y) (h1 : 1 ≤ st) (h2 : st ≤ 256) (hd : -32 ≤ d ∧ d ≤ 32)
include hx hy h1 h2 hd
abbrev P (x y : List Int) (d : Int) (st : Nat) (r : Int) : Int := pw (V r (fun t => S x y d st t x.length))
theorem P_le (r : Int) : 0 ≤ P x y d st r ∧ P x y d st r ≤ 200000000 := (cell_pw (d := d) (r := r) hx hy (by omega) h1).2
theorem powers_l0 {a : Int} {i : Nat} (hi : i < 4) (ha : 0 ≤ a ∧ a ≤ 1000000000) (h : Ev (fun k => fringelaw20_SearchPowers.l0 k x y d st true (a + P x y d st i) ((i + 1 : Nat) : Int)) true) : Ev (fun k => fringelaw20_SearchPowers.l0 k x y d st true a i) true := by
  have hp := P_le hx hy h1 h2 hd (i : Int)
  refine Ev.step (fun k => fringelaw20_SearchPowers.l0.eq_2 _ _ _ _ _ _ _ k) (evp (by omega) (Ev.bind (at_ev hx hy h1 hd (by omega) h2) (evp rfl ?_)))
  rw [succ1 (by omega)]
  have e : wrap64 (a + (cellOf x y d st i).f3) = a + P x y d st i := w64 (show -9223372036854775808 ≤ a + P x y d st i by omega) (show a + P x y d st i ≤ 9223372036854775807 by omega)
  dsimp only
  rw [e]
  exact h
theorem powers_l2 {p a : Int} {t : Nat} (ht : t < 4) (h : Ev (fun k => fringelaw20_SearchPowers.l1 k x y d st true p (wrap64 (a + wrap64 (S x y d st t x.length * S x y d st t x.length))) ((t + 1 : Nat) : Int)) true) : ∀ (m i : Nat), i + m = x.length →
    Ev (fun k => fringelaw20_SearchPowers.l2 k x y d st true p a t (S x y d st t i) i) true := by
  intro m
  have hl := hx.1
  have hly := hy.1
  induction m with
  | zero =>
    intro i hi
    have : i = x.length := by omega
    subst this
    refine Ev.step (fun k => fringelaw20_SearchPowers.l2.eq_2 _ _ _ _ _ _ _ _ _ _ k) (evn (by omega) ?_)
    rw [succ1 (by omega)]
    exact h
  | succ m ih =>
    intro i hi
    have ih := ih (i + 1) (by omega)
    have hb := pr_bound x y d hx hy i
    have hs := S_bound x y d st hx hy t i
    have e0 : wrap64 ((i : Int) + d) = (i : Int) + d := w64 (by omega) (by omega)
    refine Ev.step (fun k => fringelaw20_SearchPowers.l2.eq_2 _ _ _ _ _ _ _ _ _ _ k) ?_
    rw [e0, divw (by omega), succ1 (by omega)]
    rw [show Int.tmod ((i / st : Nat) : Int) 4 = ((i / st % 4 : Nat) : Int) from tmodN (i / st) 4]
    refine evp (by omega) (evn (by omega) ?_)
    rw [S] at ih
    by_cases hm : i / st % 4 = t
    · rw [if_pos hm] at ih
      refine evp (by rw [hm]) ?_
      by_cases hc1 : (i : Int) + d ≥ 0
      · refine evp hc1 ?_
        by_cases hc2 : (i : Int) + d < y.length
        · rw [prod_eq hx hy (by omega) h1 i ⟨hc1, hc2⟩, w64 (x := S x y d st t i + pr x y d i) (by omega) (by omega)]
          exact evp hc2 (evp (by omega) (evp hc1 ih))
        · have ep : pr x y d i = 0 := if_neg (fun h => hc2 h.2)
          rw [ep, Int.add_zero] at ih
          exact evn hc2 ih
      · have ep : pr x y d i = 0 := if_neg (fun h => hc1 h.1)
        rw [ep, Int.add_zero] at ih
        exact evn hc1 ih
    · rw [if_neg hm, Int.add_zero] at ih
      exact evn (by omega) ih
theorem powers_l1 {p a : Int} {t : Nat} (ht : t < 4) (ha : 0 ≤ a ∧ a ≤ 1000000000) (h : Ev (fun k => fringelaw20_SearchPowers.l1 k x y d st true p (a + S x y d st t x.length * S x y d st t x.length) ((t + 1 : Nat) : Int)) true) :
    Ev (fun k => fringelaw20_SearchPowers.l1 k x y d st true p a t) true := by
  have hs := S_le (d := d) (st := st) hx hy t
  have hq := sq_bound (b := 2304) (by decide) hs.1 hs.2
  refine Ev.step (fun k => fringelaw20_SearchPowers.l1.eq_2 _ _ _ _ _ _ _ _ k) (evp (by omega) ?_)
  refine powers_l2 hx hy h1 h2 hd ht ?_ x.length 0 (Nat.zero_add _)
  rw [w64 (x := S x y d st t x.length * S x y d st t x.length) (by omega) (by omega), w64 (by omega) (by omega)]
  exact h
theorem powers_main : Ev (fun k => fringelaw20_SearchPowers.j0 k x y d st true false) true := by
  have p0 := P_le hx hy h1 h2 hd 0
  have p1 := P_le hx hy h1 h2 hd 1
  have p2 := P_le hx hy h1 h2 hd 2
  have p3 := P_le hx hy h1 h2 hd 3
  have hs := fun t => S_le (d := d) (st := st) hx hy t
  have q0 := sq_bound (b := 2304) (by decide) (hs 0).1 (hs 0).2
  have q1 := sq_bound (b := 2304) (by decide) (hs 1).1 (hs 1).2
  have q2 := sq_bound (b := 2304) (by decide) (hs 2).1 (hs 2).2
  have q3 := sq_bound (b := 2304) (by decide) (hs 3).1 (hs 3).2
  have hpar := parseval (fun t => S x y d st t x.length)
  have hsum := S_sum x y d st x.length
  refine Ev.step (fun k => fringelaw20_SearchPowers.j0.eq_2 _ _ _ _ _ _ k) (evn (by decide) ?_)
  refine powers_l0 hx hy h1 h2 hd (i := 0) (by omega) (by omega) (powers_l0 hx hy h1 h2 hd (i := 1) (by omega) (by simp; omega) (powers_l0 hx hy h1 h2 hd (i := 2) (by omega) (by simp; omega) (powers_l0 hx hy h1 h2 hd (i := 3) (by omega) (by simp; omega) ?_)))
  refine Ev.step (fun k => fringelaw20_SearchPowers.l0.eq_2 _ _ _ _ _ _ _ k) (evn (by omega) ?_)
  refine powers_l1 hx hy h1 h2 hd (t := 0) (by omega) (by omega) (powers_l1 hx hy h1 h2 hd (t := 1) (by omega) (by omega) (powers_l1 hx hy h1 h2 hd (t := 2) (by omega) (by omega) (powers_l1 hx hy h1 h2 hd (t := 3) (by omega) (by omega) ?_)))
  refine Ev.step (fun k => fringelaw20_SearchPowers.l1.eq_2 _ _ _ _ _ _ _ _ k) (evn (by omega) (Ev.bind (LG.lag_ev (most := 32) hx hy (by omega)) (Ev.bind (at_ev (r := 0) hx hy h1 hd (by omega) h2) (evp rfl ?_))))
  have hl := LG.lagL_length x y 32 (2 * 32 + 1)
  have hg := LG.rdL _ _ _ (LG.lagL_get x y 32 (d + 32).toNat (2 * 32 + 1) (by omega))
  rw [Int.toNat_of_nonneg (by omega)] at hg
  rw [show d + 32 - ((32 : Nat) : Int) = d by omega] at hg
  rw [w64 (x := d + 32) (by omega) (by omega)]
  refine evp ?_ (evp rfl (evp rfl (evp (by dsimp only; rw [hl]; rfl) (evp (by omega) (evp (by dsimp only; rw [hl]; omega) ?_)))))
  · rw [w64 (by omega) (by omega)]
    have e0 : ((0 : Nat) : Int) = 0 := rfl
    have e1 : ((1 : Nat) : Int) = 1 := rfl
    have e2 : ((2 : Nat) : Int) = 2 := rfl
    have e3 : ((3 : Nat) : Int) = 3 := rfl
    rw [e0, e1, e2, e3]
    unfold P
    omega
  · dsimp only
    rw [hg]
    have e : (cellOf x y d st 0).f2.f0 = (LG.lagE x y d x.length).f0 := by
      unfold cellOf V LG.lagE
      rw [← hsum]
      rfl
    have e' : (cellOf x y d st 0).f2.f1 = 0 := rfl
    rw [e, e']
    simp only [beq_self_eq_true, Bool.and_self]
    exact Ev.now _
end
theorem SearchPowers : fringelaw20_SearchPowers.Pure := by
  intro x y a2 a3 _ _ _ _ _ _ _ _
  refine Ev.rounds (Ev.congr (fun k => fringelaw20_SearchPowers.f.eq_1 k _ _ _ _) ?_)
  obtain ⟨b, hb, hs⟩ := fit_ev x y a3
  refine Ev.bind (g := fun k => fringelaw20_alive.f) (a := true) (Ev.now _) (Ev.bind hb ?_)
  cases b with
  | false => exact evn (by decide) (powers_t _ _ _ _)
  | true =>
    obtain ⟨hx, hy, h1, h2⟩ := hs rfl
    refine evp rfl ?_
    by_cases c1 : a2 < -32
    · exact evp c1 (powers_t _ _ _ _)
    refine evn c1 ?_
    by_cases c2 : a2 > 32
    · exact evp c2 (powers_t _ _ _ _)
    refine evn c2 ?_
    obtain ⟨st, rfl⟩ := Int.eq_ofNat_of_zero_le (show 0 ≤ a3 by omega)
    exact powers_main hx hy (by omega) (by omega) (by omega)
end Go.Proofs.Ytpooejjgaobcaaa.Pure
