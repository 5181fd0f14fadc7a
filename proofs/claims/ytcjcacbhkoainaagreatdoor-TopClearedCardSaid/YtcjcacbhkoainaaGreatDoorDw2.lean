/- printed by gen_dw2.py. Clubs: the examples of the law package, by computing: the fee, round by round. -/
import Derived.Test.YtcjcacbhkoainaaGreatDoorDw0
import Derived.Test.YtcjcacbhkoainaaGreatDoorPd
set_option linter.constructorNameAsVariable false
set_option linter.unusedSimpArgs false
set_option linter.unusedVariables false
set_option linter.unusedSectionVars false
namespace Go.Proofs.YtcjcacbhkoainaaGreatDoor
open Go Go.Proofs Go.RowKit
set_option maxHeartbeats 1000000
set_option maxRecDepth 100000
end Go.Proofs.YtcjcacbhkoainaaGreatDoor
