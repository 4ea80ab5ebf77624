import Derived.Test.YtpooejjgaobcaaaSL2
import Derived.Test.YtpooejjgaobcaaaPAllx34
set_option linter.unusedVariables false
set_option linter.unusedSectionVars false
namespace Go.Proofs.Ytpooejjgaobcaaa.SL
open Go Go.RowKit Go.Proofs.Ytpooejjgaobcaaa.PAll Go.Proofs.YtpooejjgaobcaaaW.PrintWords Go.Proofs.YtpooejjgaobcaaaW.PrintLast SM

theorem fit_ev (x y : List Int) (s : Int) : ∃ b, Ev (fun k => fringelaw20_fit.f k x y s) b ∧ (b = true → str x ∧ str y ∧ 1 ≤ s ∧ s ≤ 256) := by
  have hl : ∀ l : List Int, fringeref13_Long.f l = some (decide ((l.length : Int) > 300)) := fun l => rfl
  have hF : ∀ k, fringelaw20_fit.f k x y s = _ := fun k => fringelaw20_fit.f.eq_1 k x y s
  simp only [hl] at hF
  by_cases h1 : decide ((x.length : Int) > 300) = true
  · exact ⟨false, Ev.congr hF (Ev.bind (Ev.now _) (evp h1 (Ev.now _))), fun h => by contradiction⟩
  by_cases h2 : decide ((y.length : Int) > 300) = true
  · exact ⟨false, Ev.congr hF (Ev.bind (Ev.now _) (evn h1 (Ev.bind (Ev.now _) (evp h2 (Ev.now _))))), fun h => by contradiction⟩
  by_cases h3 : chk x = 0
  · by_cases h4 : chk y = 0
    · by_cases h5 : s ≥ 1
      · refine ⟨decide (s ≤ 256), Ev.congr hF (Ev.bind (Ev.now _) (evn h1 (Ev.bind (Ev.now _) (evn h2 (Ev.bind (refCheck_ev x) (evp h3 (Ev.bind (refCheck_ev y) (evp h4 (evp h5 (Ev.now _)))))))))), fun h => ?_⟩
        rw [decide_eq_true_eq] at h
        exact ⟨chk_str h3, chk_str h4, h5, h⟩
      · exact ⟨false, Ev.congr hF (Ev.bind (Ev.now _) (evn h1 (Ev.bind (Ev.now _) (evn h2 (Ev.bind (refCheck_ev x) (evp h3 (Ev.bind (refCheck_ev y) (evp h4 (evn h5 (Ev.now _)))))))))), fun h => by contradiction⟩
    · exact ⟨false, Ev.congr hF (Ev.bind (Ev.now _) (evn h1 (Ev.bind (Ev.now _) (evn h2 (Ev.bind (refCheck_ev x) (evp h3 (Ev.bind (refCheck_ev y) (evn h4 (Ev.now _))))))))), fun h => by contradiction⟩
  · exact ⟨false, Ev.congr hF (Ev.bind (Ev.now _) (evn h1 (Ev.bind (Ev.now _) (evn h2 (Ev.bind (refCheck_ev x) (evn h3 (Ev.now _))))))), fun h => by contradiction⟩
end Go.Proofs.Ytpooejjgaobcaaa.SL
