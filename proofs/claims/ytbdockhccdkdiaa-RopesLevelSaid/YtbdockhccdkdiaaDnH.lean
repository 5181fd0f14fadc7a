/- Printed: slices.Clone. -/
import Derived.Test.YtbdockhccdkdiaaDnG
set_option linter.constructorNameAsVariable false
set_option linter.unusedSimpArgs false
set_option linter.unusedVariables false
set_option linter.unusedSectionVars false
namespace Go.Proofs.Ytbdockhccdkdiaa
open Go Go.Proofs Go.RowKit
end Go.Proofs.Ytbdockhccdkdiaa
