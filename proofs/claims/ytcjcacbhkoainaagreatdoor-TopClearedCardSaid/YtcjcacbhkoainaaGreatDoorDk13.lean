/- Clubs, plain: no result depends on the order of the messages, guests, rights or works: the law. -/
import Derived.Test.YtcjcacbhkoainaaGreatDoorDk12
set_option linter.constructorNameAsVariable false
set_option linter.unusedSimpArgs false
set_option linter.unusedVariables false
set_option linter.unusedSectionVars false
namespace Go.Proofs.YtcjcacbhkoainaaGreatDoor
open Go Go.Proofs Go.RowKit
set_option maxHeartbeats 1000000
end Go.Proofs.YtcjcacbhkoainaaGreatDoor
