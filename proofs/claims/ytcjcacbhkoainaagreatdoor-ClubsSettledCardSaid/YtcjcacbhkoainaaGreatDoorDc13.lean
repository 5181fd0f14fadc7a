/- How long the slices of a union that is an argument may be. -/
import Derived.Test.YtcjcacbhkoainaaGreatDoorPe
import Derived.Test.YtcjcacbhkoainaaGreatDoorDr1
set_option linter.constructorNameAsVariable false
set_option linter.unusedSimpArgs false
set_option linter.unusedVariables false
set_option linter.unusedSectionVars false
namespace Go.Proofs.YtcjcacbhkoainaaGreatDoor
open Go Go.Proofs Go.RowKit
end Go.Proofs.YtcjcacbhkoainaaGreatDoor
