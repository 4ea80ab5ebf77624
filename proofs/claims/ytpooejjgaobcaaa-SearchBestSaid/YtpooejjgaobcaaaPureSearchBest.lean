import Derived.Test.YtpooejjgaobcaaaSF
import Derived.Test.YtpooejjgaobcaaaPAllx35
set_option linter.unusedVariables false
set_option linter.unusedSectionVars false
namespace Go.Proofs.Ytpooejjgaobcaaa.Pure
open Go Go.RowKit Go.Proofs.Ytpooejjgaobcaaa.PAll Go.Proofs.YtpooejjgaobcaaaW.PrintWords Go.Proofs.YtpooejjgaobcaaaW.PrintLast SM SL

theorem best_t (x y : List Int) (a2 a3 a4 a5 : Int) : Ev (fun k => fringelaw20_SearchBest.j0 k x y a2 a3 a4 a5 true true) true := Ev.step (fun k => fringelaw20_SearchBest.j0.eq_2 _ _ _ _ _ _ _ _ k) (evp rfl (Ev.now _))
theorem best_j2 {b c : S32} (hb : -1000 ≤ b.f0 ∧ b.f0 ≤ 1000) (hc : -1000 ≤ c.f0 ∧ c.f0 ≤ 1000) (h : ¬ A c b) : Ev (fun k => fringelaw20_SearchBest.j2 k true (decide (c.f3 > b.f3)) b.f0 b.f1 b.f2.f0 b.f2.f1 b.f3 c.f0 c.f1 c.f2.f0 c.f2.f1 c.f3) true := by
  have h1 := sq_bound (b := 1000) (by decide) hc.1 hc.2
  have h2 := sq_bound (b := 1000) (by decide) hb.1 hb.2
  unfold A at h
  refine Ev.step (fun k => fringelaw20_SearchBest.j2.eq_2 _ _ _ _ _ _ _ _ _ _ _ _ k) (evn (by rw [decide_eq_true_eq]; omega) ?_)
  rw [w64 (x := c.f0 * c.f0) (by omega) (by omega), w64 (x := b.f0 * b.f0) (by omega) (by omega)]
  generalize c.f0 * c.f0 = p at *
  generalize b.f0 * b.f0 = q at *
  by_cases e1 : c.f3 < b.f3
  · exact evp e1 (Ev.now _)
  refine evn e1 (evp rfl ?_)
  by_cases e2 : q < p
  · exact evp e2 (Ev.now _)
  refine evn e2 (evp (by omega) ?_)
  by_cases e3 : b.f0 < c.f0
  · exact evp e3 (Ev.now _)
  refine evn e3 (evp (by omega) ?_)
  rw [decide_eq_true (show b.f1 ≤ c.f1 by omega)]
  exact Ev.now _
theorem best_main {x y : List Int} {st most : Nat} {d r : Int} (hx : str x) (hy : str y) (h1 : 1 ≤ st) (h2 : st ≤ 256) (hm : most ≤ 32) (hd : -(most : Int) ≤ d ∧ d ≤ most) (hr : 0 ≤ r ∧ r ≤ 3) :
    Ev (fun k => fringelaw20_SearchBest.j0 k x y most st d r true false) true := by
  obtain ⟨d0, r0, hd0, hr0, e, hA⟩ := bestC_spec x y (st := st) hm
  have hA := hA d r hd hr
  have hp := cell_pw (d := d) (r := r) hx hy (by omega) h1
  have hp0 := cell_pw (d := d0) (r := r0) hx hy (by omega) h1
  have hne : ((cellOf x y d st r).f3 != wrap64 (wrap64 ((cellOf x y d st r).f2.f0 * (cellOf x y d st r).f2.f0) + wrap64 ((cellOf x y d st r).f2.f1 * (cellOf x y d st r).f2.f1))) = false := by
    rw [← hp.1]
    simp
  refine Ev.step (fun k => fringelaw20_SearchBest.j0.eq_2 _ _ _ _ _ _ _ _ k) (evn (by decide) (Ev.bind (best_ev hx hy h1 hm h2) (Ev.bind (at_ev hx hy h1 (by omega) hr h2) (evp rfl ?_))))
  dsimp only
  rw [hne]
  refine Ev.step (fun k => fringelaw20_SearchBest.j1.eq_2 _ _ _ _ _ _ _ _ _ _ _ _ _ _ _ _ k) (evn (by decide) ?_)
  unfold bestR
  rw [e]
  by_cases hz : (cellOf x y d0 st r0).f3 = 0
  · simp only [if_pos hz]
    refine evn (by decide) (evp (by trivial) (evp (by trivial) ?_))
    have : (cellOf x y d st r).f3 = 0 := by
      unfold A at hA
      omega
    rw [this]
    exact Ev.now _
  · simp only [if_neg hz]
    refine evp (by trivial) (Ev.bind (at_ev (d := d0) (r := r0) hx hy h1 (by omega) hr0 h2) (evp (by trivial) (evn (by simp) (evn (by omega) ?_))))
    exact best_j2 (show -1000 ≤ d0 ∧ d0 ≤ 1000 by omega) (show -1000 ≤ d ∧ d ≤ 1000 by omega) hA
theorem SearchBest : fringelaw20_SearchBest.Pure := by
  intro x y a2 a3 a4 a5 _ _ _ _ _ _ hw2 _ _ _
  refine Ev.rounds (Ev.congr (fun k => fringelaw20_SearchBest.f.eq_1 k _ _ _ _ _ _) ?_)
  obtain ⟨b, hb, hs⟩ := fit_ev x y a3
  refine Ev.bind (g := fun k => fringelaw20_alive.f) (a := true) (Ev.now _) (Ev.bind hb ?_)
  cases b with
  | false => exact evn (by decide) (best_t _ _ _ _ _ _)
  | true =>
    obtain ⟨hx, hy, h1, h2⟩ := hs rfl
    refine evp rfl ?_
    by_cases c1 : a2 < 0
    · exact evp c1 (best_t _ _ _ _ _ _)
    refine evn c1 ?_
    by_cases c2 : a2 > 32
    · exact evp c2 (best_t _ _ _ _ _ _)
    refine evn c2 ?_
    rw [w64 (x := -a2) (by omega) (by omega)]
    by_cases c3 : a4 < -a2
    · exact evp c3 (best_t _ _ _ _ _ _)
    refine evn c3 ?_
    by_cases c4 : a4 > a2
    · exact evp c4 (best_t _ _ _ _ _ _)
    refine evn c4 ?_
    by_cases c5 : a5 < 0
    · exact evp c5 (best_t _ _ _ _ _ _)
    refine evn c5 ?_
    by_cases c6 : a5 > 3
    · exact evp c6 (best_t _ _ _ _ _ _)
    refine evn c6 ?_
    obtain ⟨m, rfl⟩ := Int.eq_ofNat_of_zero_le (show 0 ≤ a2 by omega)
    obtain ⟨st, rfl⟩ := Int.eq_ofNat_of_zero_le (show 0 ≤ a3 by omega)
    exact best_main hx hy (by omega) (by omega) (by omega) (by omega) (by omega)
end Go.Proofs.Ytpooejjgaobcaaa.Pure
