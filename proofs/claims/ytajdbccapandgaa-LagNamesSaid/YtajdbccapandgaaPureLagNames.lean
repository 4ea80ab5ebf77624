/- The limits and errors of lags, reckoned: the statement has no arguments. -/
import Derived.Test.YtajdbccapandgaaPAllx32
namespace Go.Proofs.Ytajdbccapandgaa.Pure
open Go.RowKit Go.Proofs.Ytajdbccapandgaa.PAll Go.Proofs.YtajdbccapandgaaW.PrintWords Go.Proofs.YtajdbccapandgaaW.PrintLast
set_option maxRecDepth 1000000 in
theorem LagNames : fringelaw16_LagNames.Pure := ⟨2000, by decide +kernel⟩
end Go.Proofs.Ytajdbccapandgaa.Pure
