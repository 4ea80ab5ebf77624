/- The chapter's examples, limits, small lists and errors of transforms, reckoned: the statement has no arguments. -/
import Derived.Test.YtbeidonfmeengaaPAllx14
namespace Go.Proofs.Ytbeidonfmeengaa.Pure
open Go.RowKit Go.Proofs.Ytbeidonfmeengaa.PAll Go.Proofs.YtbeidonfmeengaaW.PrintWords Go.Proofs.YtbeidonfmeengaaW.PrintLast
set_option maxRecDepth 1000000 in
theorem FourierNames : fringelaw11_FourierNames.Pure := ⟨2000, by decide +kernel⟩
end Go.Proofs.Ytbeidonfmeengaa.Pure
