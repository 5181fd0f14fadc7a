/- printed by gen_eqf.py: models at plain types, and what they are, by computing. -/
import Derived.Test.YtcjgodgpaokbnaaDnL
import Derived.Test.YtcjgodgpaokbnaaDq3
import Derived.Test.YtcjgodgpaokbnaaDq0
set_option linter.constructorNameAsVariable false
set_option linter.unusedSimpArgs false
set_option linter.unusedVariables false
set_option linter.unusedSectionVars false
namespace Go.Proofs.Ytcjgodgpaokbnaa
open Go Go.Proofs Go.RowKit
set_option maxRecDepth 100000
end Go.Proofs.Ytcjgodgpaokbnaa
