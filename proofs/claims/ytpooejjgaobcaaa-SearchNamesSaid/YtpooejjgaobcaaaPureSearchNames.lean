/- The limits and errors of searches, reckoned: the statement has no arguments. -/
import Derived.Test.YtpooejjgaobcaaaPAllx37
namespace Go.Proofs.Ytpooejjgaobcaaa.Pure
open Go.RowKit Go.Proofs.Ytpooejjgaobcaaa.PAll Go.Proofs.YtpooejjgaobcaaaW.PrintWords Go.Proofs.YtpooejjgaobcaaaW.PrintLast
set_option maxRecDepth 1000000 in
theorem SearchNames : fringelaw20_SearchNames.Pure := ⟨600, by decide +kernel⟩
end Go.Proofs.Ytpooejjgaobcaaa.Pure
