/- Printed: what functions of the program compute. -/
import Derived.Test.YtbdockhccdkdiaaGreatNh
set_option linter.constructorNameAsVariable false
set_option linter.unusedSimpArgs false
set_option linter.unusedVariables false
set_option linter.unusedSectionVars false
namespace Go.Proofs.YtbdockhccdkdiaaGreat
open Go Go.Proofs Go.RowKit
set_option maxRecDepth 20000
noncomputable section
end
end Go.Proofs.YtbdockhccdkdiaaGreat
