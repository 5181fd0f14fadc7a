/- Clubs: the examples of the law package, by computing: what is valid, what is accepted. -/
import Derived.Test.YtcjcacbhkoainaaGreatDoorQa
import Derived.Test.YtcjcacbhkoainaaGreatDoorPa
set_option linter.constructorNameAsVariable false
set_option linter.unusedSimpArgs false
set_option linter.unusedVariables false
set_option linter.unusedSectionVars false
namespace Go.Proofs.YtcjcacbhkoainaaGreatDoor
open Go Go.Proofs Go.RowKit
set_option maxHeartbeats 1000000
set_option maxRecDepth 100000
end Go.Proofs.YtcjcacbhkoainaaGreatDoor
