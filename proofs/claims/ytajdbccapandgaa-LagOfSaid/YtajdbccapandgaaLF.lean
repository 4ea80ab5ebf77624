import Derived.Test.YtajdbccapandgaaCK
import Derived.Test.YtajdbccapandgaaPAllx22
set_option linter.unusedVariables false
set_option linter.unusedSectionVars false
namespace Go.Proofs.Ytajdbccapandgaa.LG
open Go Go.RowKit Go.Proofs.Ytajdbccapandgaa.PAll Go.Proofs.YtajdbccapandgaaW.PrintWords Go.Proofs.YtajdbccapandgaaW.PrintLast SM

theorem fit_ev (x : List Int) : ∃ b, Ev (fun k => fringelaw16_fit.f k x) b ∧ (b = true → str x) := by
  have hl : ∀ l : List Int, fringeref13_Long.f l = some (decide ((l.length : Int) > 300)) := fun l => rfl
  have hF : ∀ k, fringelaw16_fit.f k x = _ := fun k => fringelaw16_fit.f.eq_1 k x
  simp only [hl] at hF
  by_cases h1 : decide ((x.length : Int) > 300) = true
  · exact ⟨false, Ev.congr hF (Ev.bind (Ev.now _) (evp h1 (Ev.now _))), fun h => by contradiction⟩
  · refine ⟨(chk x == 0), Ev.congr hF (Ev.bind (Ev.now _) (evn h1 (Ev.bind (refCheck_ev x) (Ev.now _)))), fun h => chk_str (beq_iff_eq.1 h)⟩
/-! two streams that fit, or nothing is asked -/
theorem fits {x y : List Int} {f g : Nat → Option Bool} (hg : Ev g true) (hf : str x → str y → Ev f true) :
    Ev (fun k => (fringelaw16_fit.f k x).bind fun t => (if t = true then ((fringelaw16_fit.f k y).bind fun t => (if t = true then f k else g k)) else g k)) true := by
  obtain ⟨b, hb, hs⟩ := fit_ev x
  obtain ⟨c, hc, ht⟩ := fit_ev y
  refine Ev.bind hb ?_
  cases b with
  | false => exact evn (by decide) hg
  | true =>
    refine evp rfl (Ev.bind hc ?_)
    cases c with
    | false => exact evn (by decide) hg
    | true => exact evp rfl (hf (hs rfl) (ht rfl))
end Go.Proofs.Ytajdbccapandgaa.LG
