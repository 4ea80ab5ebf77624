/- Spectrum, Product, Values and Pieces return what the reference returns, and leave their arguments as they are, for every input. -/
import Derived.Test.YtbopgopggnagpaaXP
import Derived.Test.YtbopgopggnagpaaPAllx31
set_option linter.unusedVariables false
namespace Go.Proofs.Ytbopgopggnagpaa.Pure
open Go Go.RowKit Go.Proofs.Ytbopgopggnagpaa.PAll Go.Proofs.YtbopgopggnagpaaW.PrintWords Go.Proofs.YtbopgopggnagpaaW.PrintLast Go.Proofs.Ytbopgopggnagpaa.RL Go.Proofs.Ytbopgopggnagpaa.XS

theorem CrossSpectra : fringelaw17_CrossSpectra.Pure := by
  intro s a b _ _ _ _ _ _ _ _ _
  refine Ev.rounds (Ev.congr (fun k => fringelaw17_CrossSpectra.f.eq_1 k _ _ _) ?_)
  have hg : ∀ l : List Int, fringeref13_Long.f l = some (decide ((l.length : Int) > 300)) := fun l => rfl
  have jt : Ev (fun k => fringelaw17_CrossSpectra.j0 k s a b true) true := Ev.step (fun k => fringelaw17_CrossSpectra.j0.eq_2 _ _ _ _ k) (evp rfl (Ev.now _))
  rw [hg]
  refine Ev.bind (Ev.now _) ?_
  by_cases h : decide ((s.length : Int) > 300) = true
  · exact evp h jt
  refine evn h ?_
  by_cases h2 : (a.length : Int) > 300
  · exact evp h2 jt
  refine evn h2 ?_
  by_cases h3 : decide ((b.length : Int) > 300) = true
  · rw [h3]; exact jt
  rw [Bool.eq_false_iff.2 h3]
  have hs : s.length ≤ 300 := by rw [decide_eq_true_eq] at h; omega
  have ha : a.length ≤ 300 := by omega
  have hb : b.length ≤ 300 := by rw [decide_eq_true_eq] at h3; omega
  obtain ⟨x, e, x1, x2, hx⟩ := Spectrum_all s
  obtain ⟨y, f, y1, y2, hy⟩ := Product_all a b (by omega) (by omega)
  obtain ⟨z, g, z1, z2, hz⟩ := Values_all a (by omega)
  obtain ⟨p, q, p1, p2, hp, hq⟩ := Pieces_all s (by omega)
  refine Ev.step (fun k => fringelaw17_CrossSpectra.j0.eq_2 _ _ _ _ k) (evn (by decide) (Ev.bind (Ev.now _) (evp (by simp; omega) (Ev.bind (Ev.now _) (Ev.bind (Ev.now _) (evp (by simp; omega) (Ev.bind (Ev.now _) ?_)))))))
  rw [List.nil_append, List.nil_append, p1]
  refine Ev.bind x1 (Ev.bind x2 (Ev.bind y1 (Ev.bind y2 (Ev.bind z1 (Ev.bind z2 (Ev.bind (Ev.now _) (Ev.bind p2 ?_)))))))
  refine Ev.bind (same17_ev hx) (evp rfl (evp rfl (Ev.bind (same17_ev hy) (evp rfl (evp rfl (Ev.bind (same17_ev hz) (evp rfl (evp rfl (Ev.bind (sameLists_ev hp hq) (evp rfl (evp rfl (Ev.bind (same13_ev (l := s) (by omega)) (evp rfl (Ev.bind (same17_ev (l := a) (by omega)) (Ev.now _)))))))))))))))
end Go.Proofs.Ytbopgopggnagpaa.Pure
