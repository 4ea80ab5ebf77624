/- Turn, At and Stop return what the reference returns, and leave the streams as they are, for every input. -/
import Derived.Test.YtpooejjgaobcaaaST
import Derived.Test.YtpooejjgaobcaaaPAllx23
set_option linter.unusedVariables false
namespace Go.Proofs.Ytpooejjgaobcaaa.Pure
open Go Go.RowKit Go.Proofs.Ytpooejjgaobcaaa.PAll Go.Proofs.YtpooejjgaobcaaaW.PrintWords Go.Proofs.YtpooejjgaobcaaaW.PrintLast SM SL _root_.Go.Proofs.Ytpooejjgaobcaaa.ST

theorem SearchCells : fringelaw20_SearchCells.Pure := by
  intro a b q x y d r s _ _ _ _ _ _ _ _
  refine Ev.rounds (Ev.congr (fun k => fringelaw20_SearchCells.f.eq_1 k _ _ _ _ _ _ _ _) ?_)
  have hlong : ∀ l : List Int, fringeref13_Long.f l = some (decide ((l.length : Int) > 300)) := fun l => rfl
  have jt : Ev (fun k => fringelaw20_SearchCells.j0 k q x y d r s true a b) true := Ev.step (fun k => fringelaw20_SearchCells.j0.eq_2 _ _ _ _ _ _ _ _ _ k) (evp rfl (Ev.now _))
  rw [hlong, hlong]
  refine Ev.bind (Ev.now _) ?_
  by_cases h : decide ((x.length : Int) > 300) = true
  · exact evp h jt
  refine evn h (Ev.bind (Ev.now _) ?_)
  by_cases h2 : decide ((y.length : Int) > 300) = true
  · rw [h2]; exact jt
  rw [Bool.eq_false_iff.2 h2]
  have hx : x.length ≤ 300 := by rw [decide_eq_true_eq] at h; omega
  have hy : y.length ≤ 300 := by rw [decide_eq_true_eq] at h2; omega
  obtain ⟨t, t1, t2⟩ := turn_all a b q
  obtain ⟨c, c1, c2⟩ := at_all x y d r s
  obtain ⟨l, e, l1, l2, hl⟩ := stop_all x r s
  refine Ev.step (fun k => fringelaw20_SearchCells.j0.eq_2 _ _ _ _ _ _ _ _ _ k) (evn (by decide) ?_)
  refine Ev.bind (Ev.now _) (evp (by simp; omega) (Ev.bind (Ev.now _) (Ev.bind (Ev.now _) (evp (by simp; omega) (Ev.bind (Ev.now _) ?_)))))
  rw [List.nil_append, List.nil_append, t2]
  refine Ev.bind t1 (Ev.bind (Ev.now _) (Ev.bind c1 (Ev.bind c2 (Ev.bind l1 (Ev.bind l2 (evp (by simp) (evp rfl (evp (by simp) (evp rfl (Ev.bind (sameG_ev hl) (evp rfl (evp rfl (Ev.bind (same13_ev (by omega)) (evp rfl (Ev.bind (same13_ev (by omega)) (Ev.now _))))))))))))))))
end Go.Proofs.Ytpooejjgaobcaaa.Pure
