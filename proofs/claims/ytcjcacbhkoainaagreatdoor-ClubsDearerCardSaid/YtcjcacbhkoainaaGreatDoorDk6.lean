/- printed by gen_dk6.py. Clubs, plain: what a stay costs, of a union whose fees lie in a row of their own. -/
import Derived.Test.YtcjcacbhkoainaaGreatDoorDk5
set_option linter.constructorNameAsVariable false
set_option linter.unusedSimpArgs false
set_option linter.unusedVariables false
set_option linter.unusedSectionVars false
namespace Go.Proofs.YtcjcacbhkoainaaGreatDoor
open Go Go.Proofs Go.RowKit
set_option maxHeartbeats 1000000
end Go.Proofs.YtcjcacbhkoainaaGreatDoor
