/- Delay and Gaps return what the reference returns, and leave the stream as it is, for every input. -/
import Derived.Test.YtkbndiklphngoaaAD
import Derived.Test.YtkbndiklphngoaaPAllx14
set_option linter.unusedVariables false
namespace Go.Proofs.Ytkbndiklphngoaa.Pure
open Go Go.RowKit Go.Proofs.Ytkbndiklphngoaa.PAll Go.Proofs.YtkbndiklphngoaaW.PrintWords Go.Proofs.YtkbndiklphngoaaW.PrintLast SM Go.Proofs.Ytkbndiklphngoaa.AD

theorem AlignDelays : fringelaw14_AlignDelays.Pure := by
  intro s d _ _ _ _
  refine Ev.rounds (Ev.congr (fun k => fringelaw14_AlignDelays.f.eq_1 k _ _) ?_)
  have hlong : ∀ l : List Int, fringeref13_Long.f l = some (decide ((l.length : Int) > 300)) := fun l => rfl
  rw [hlong]
  refine Ev.bind (Ev.now _) ?_
  by_cases h : decide ((s.length : Int) > 300) = true
  · exact evp h (Ev.now _)
  have hl : s.length ≤ 300 := by rw [decide_eq_true_eq] at h; omega
  obtain ⟨x, e, x1, x2, hx⟩ := delay_all hl d
  obtain ⟨y, f, y1, y2, hy⟩ := gaps_all hl
  refine evn h (Ev.bind (Ev.now _) (evp (by simp; omega) (Ev.bind (Ev.now _) ?_)))
  rw [List.nil_append]
  refine Ev.bind x1 (Ev.bind x2 (Ev.bind y1 (Ev.bind y2 (Ev.bind (same13_ev (l := x) (by omega)) (evp rfl (evp rfl (Ev.bind (sameG_ev (l := y) (by omega)) (evp rfl (evp rfl (Ev.bind (same13_ev (l := s) (by omega)) (Ev.now _)))))))))))
end Go.Proofs.Ytkbndiklphngoaa.Pure
