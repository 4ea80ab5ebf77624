/- Check, Pow and Inv of the program return what the reference returns, for every input. -/
import Derived.Test.YtehbmpdmdfiagaaRL2
import Derived.Test.YtehbmpdmdfiagaaPAllx2
set_option linter.unusedVariables false
namespace Go.Proofs.Ytehbmpdmdfiagaa.Pure
open Go.RowKit Go.Proofs.Ytehbmpdmdfiagaa.PAll Go.Proofs.YtehbmpdmdfiagaaW.PrintWords Go.Proofs.YtehbmpdmdfiagaaW.PrintLast Go.Proofs.Ytehbmpdmdfiagaa.RL

theorem RingWorks : fringelaw10_RingWorks.Pure := by
  intro p a n hp ha hn
  obtain ⟨r1, e1, e2⟩ := pow_all p a n (wf64 hn).2
  obtain ⟨r2, e3, e4⟩ := inv_all p a
  obtain ⟨r3, e5, e6⟩ := check_all p
  refine (Ev.congr (fun k => by unfold fringelaw10_RingWorks.f; rfl) (Ev.bind e1 (Ev.bind e2 (Ev.bind e3 (Ev.bind e4 (Ev.bind e5 (Ev.bind e6 ?_))))))).rounds
  simp only [if_true, beq_self_eq_true]
  exact Ev.now true

end Go.Proofs.Ytehbmpdmdfiagaa.Pure
