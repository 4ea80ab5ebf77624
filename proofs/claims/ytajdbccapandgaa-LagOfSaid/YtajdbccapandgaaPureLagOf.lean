/- Of and Cut return what the reference returns, and leave the streams as they are, for every input. -/
import Derived.Test.YtajdbccapandgaaLA
import Derived.Test.YtajdbccapandgaaPAllx14
set_option linter.unusedVariables false
namespace Go.Proofs.Ytajdbccapandgaa.Pure
open Go Go.RowKit Go.Proofs.Ytajdbccapandgaa.PAll Go.Proofs.YtajdbccapandgaaW.PrintWords Go.Proofs.YtajdbccapandgaaW.PrintLast SM Go.Proofs.Ytajdbccapandgaa.LG Go.Proofs.Ytajdbccapandgaa.LA

theorem LagOf : fringelaw16_LagOf.Pure := by
  intro x y m a _ _ _ _ _ _ _ _
  refine Ev.rounds (Ev.congr (fun k => fringelaw16_LagOf.f.eq_1 k _ _ _ _) ?_)
  have hlong : ∀ l : List Int, fringeref13_Long.f l = some (decide ((l.length : Int) > 300)) := fun l => rfl
  have jt : Ev (fun k => fringelaw16_LagOf.j0 k x y m a true) true := Ev.step (fun k => fringelaw16_LagOf.j0.eq_2 _ _ _ _ _ k) (evp rfl (Ev.now _))
  rw [hlong, hlong]
  refine Ev.bind (Ev.now _) ?_
  by_cases h : decide ((x.length : Int) > 300) = true
  · exact evp h jt
  refine evn h (Ev.bind (Ev.now _) ?_)
  by_cases h2 : decide ((y.length : Int) > 300) = true
  · rw [h2]; exact jt
  rw [Bool.eq_false_iff.2 h2]
  have hx : x.length ≤ 300 := by rw [decide_eq_true_eq] at h; omega
  have hy : y.length ≤ 300 := by rw [decide_eq_true_eq] at h2; omega
  obtain ⟨l, e, l1, l2, hl⟩ := lag_all x y m
  obtain ⟨p, q, f, c1, c2, hp, hq⟩ := cut_all hx a
  refine Ev.step (fun k => fringelaw16_LagOf.j0.eq_2 _ _ _ _ _ k) (evn (by decide) ?_)
  refine Ev.bind (Ev.now _) (evp (by simp; omega) (Ev.bind (Ev.now _) (Ev.bind (Ev.now _) (evp (by simp; omega) (Ev.bind (Ev.now _) ?_)))))
  rw [List.nil_append, List.nil_append, c1]
  refine Ev.bind l1 (Ev.bind l2 (Ev.bind (Ev.now _) (Ev.bind c2 (Ev.bind (sameL_ev (l := l) (by omega)) (evp rfl (evp rfl (Ev.bind (same13_ev (l := p) (by omega)) (evp rfl (Ev.bind (same13_ev (l := q) (by omega)) (evp rfl (evp rfl (Ev.bind (same13_ev (l := x) (by omega)) (evp rfl (Ev.bind (same13_ev (l := y) (by omega)) (Ev.now _)))))))))))))))
end Go.Proofs.Ytajdbccapandgaa.Pure
