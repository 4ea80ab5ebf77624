/- Check, Forward, Back and Convolve return the reference's results and errors, and leave the lists as they are, for every modulus and lists. -/
import Derived.Test.YtbeidonfmeengaaFC
import Derived.Test.YtbeidonfmeengaaPAllx9
set_option linter.unusedVariables false
namespace Go.Proofs.Ytbeidonfmeengaa.Pure
open Go Go.RowKit Go.Proofs.Ytbeidonfmeengaa.PAll Go.Proofs.YtbeidonfmeengaaW.PrintWords Go.Proofs.YtbeidonfmeengaaW.PrintLast RM FM Go.Proofs.Ytbeidonfmeengaa.RL Go.Proofs.Ytbeidonfmeengaa.FL

theorem FourierTransforms : fringelaw11_FourierTransforms.Pure := by
  intro p a b _ _ _ _ _ _ _
  refine Ev.rounds (Ev.congr (fun k => fringelaw11_FourierTransforms.f.eq_1 k _ _ _) ?_)
  have hg : ∀ l : List Int, fringeref11_Great.f l = some (decide ((l.length : Int) > 70)) := fun l => rfl
  have jt : Ev (fun k => fringelaw11_FourierTransforms.j0 k p a b true) true := Ev.step (fun k => fringelaw11_FourierTransforms.j0.eq_2 _ _ _ _ k) (evp rfl (Ev.now _))
  rw [hg, hg]
  refine Ev.bind (Ev.now _) ?_
  by_cases h : decide ((a.length : Int) > 70) = true
  · exact evp h jt
  refine evn h (Ev.bind (Ev.now _) ?_)
  by_cases h2 : decide ((b.length : Int) > 70) = true
  · rw [h2]; exact jt
  rw [Bool.eq_false_iff.2 h2]
  have ha : a.length ≤ 70 := by rw [decide_eq_true_eq] at h; omega
  obtain ⟨x, e, x1, x2, hx⟩ := forward_all p a
  obtain ⟨y, f, y1, y2, hy⟩ := back_all p a
  obtain ⟨z, g, z1, z2, hz⟩ := convolve_all p a b
  obtain ⟨r, c1, c2, _⟩ := check_all11 p a
  refine Ev.step (fun k => fringelaw11_FourierTransforms.j0.eq_2 _ _ _ _ k) (evn (by decide) (Ev.bind (Ev.now _) (evp (by simp; omega) ?_)))
  refine Ev.bind x1 (Ev.bind x2 (Ev.bind y1 (Ev.bind y2 (Ev.bind z1 (Ev.bind z2 (Ev.bind c1 (Ev.bind c2 (evp rfl (Ev.bind (same_ev x (by omega)) (evp rfl (evp rfl (Ev.bind (same_ev y (by omega)) (evp rfl (evp rfl (Ev.bind (same_ev z (by omega)) (evp rfl (evp rfl ?_)))))))))))))))))
  rw [List.nil_append]
  exact Ev.bind (same_ev a (by omega)) (Ev.now _)
end Go.Proofs.Ytbeidonfmeengaa.Pure
