/- Clubs, plain: the reference's stays, bookings and fees. -/
import Derived.Test.YtcjcacbhkoainaaGreatDoorRb
import Derived.Test.YtcjcacbhkoainaaGreatDoorRa
import Derived.Test.YtcjcacbhkoainaaGreatDoorPd
set_option linter.constructorNameAsVariable false
set_option linter.unusedSimpArgs false
set_option linter.unusedVariables false
set_option linter.unusedSectionVars false
namespace Go.Proofs.YtcjcacbhkoainaaGreatDoor
open Go Go.Proofs Go.RowKit
set_option maxHeartbeats 1000000
end Go.Proofs.YtcjcacbhkoainaaGreatDoor
