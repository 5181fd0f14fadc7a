/- Clubs: the examples of the law package. -/
import Derived.Test.YtcjcacbhkoainaaGreatDoorDw1
import Derived.Test.YtcjcacbhkoainaaGreatDoorDw2
set_option linter.constructorNameAsVariable false
set_option linter.unusedSimpArgs false
set_option linter.unusedVariables false
set_option linter.unusedSectionVars false
namespace Go.Proofs.YtcjcacbhkoainaaGreatDoor
open Go Go.Proofs Go.RowKit
end Go.Proofs.YtcjcacbhkoainaaGreatDoor
