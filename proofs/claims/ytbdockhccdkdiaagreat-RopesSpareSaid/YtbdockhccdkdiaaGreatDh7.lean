/- Ropes: Choose of the reference; the law of Holds, Spare and Choose. -/
import Derived.Test.YtbdockhccdkdiaaGreatHb
set_option linter.constructorNameAsVariable false
set_option linter.unusedSimpArgs false
set_option linter.unusedVariables false
set_option linter.unusedSectionVars false
namespace Go.Proofs.YtbdockhccdkdiaaGreat
open Go Go.Proofs Go.RowKit
set_option maxHeartbeats 1000000
end Go.Proofs.YtbdockhccdkdiaaGreat
