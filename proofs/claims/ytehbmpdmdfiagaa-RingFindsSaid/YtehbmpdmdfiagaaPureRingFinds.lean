/- Factors, Order, Generator and Root of the program return what the reference returns, for every input. -/
import Derived.Test.YtehbmpdmdfiagaaRL3
import Derived.Test.YtehbmpdmdfiagaaPAllx4
set_option linter.unusedVariables false
namespace Go.Proofs.Ytehbmpdmdfiagaa.Pure
open Go.RowKit Go.Proofs.Ytehbmpdmdfiagaa.PAll Go.Proofs.YtehbmpdmdfiagaaW.PrintWords Go.Proofs.YtehbmpdmdfiagaaW.PrintLast Go.Proofs.Ytehbmpdmdfiagaa.RL

theorem RingFinds : fringelaw10_RingFinds.Pure := by
  intro p a n hp ha hn
  obtain ⟨l, e, e1, e2, hl⟩ := Factors_all n
  obtain ⟨r2, e3, e4⟩ := Order_all p a
  obtain ⟨r3, e5, e6⟩ := Generator_all p
  obtain ⟨r4, e7, e8⟩ := Root_all p n
  refine (Ev.congr (fun k => by unfold fringelaw10_RingFinds.f; rfl) (Ev.bind e1 (Ev.bind e2 (Ev.bind e3 (Ev.bind e4 (Ev.bind e5 (Ev.bind e6 (Ev.bind e7 (Ev.bind e8 (Ev.bind (same_ev (cl l) (by rw [cl_length]; exact hl)) ?_)))))))))).rounds
  simp only [if_true, beq_self_eq_true]
  exact Ev.now true

end Go.Proofs.Ytehbmpdmdfiagaa.Pure
