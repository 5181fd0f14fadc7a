/- Clubs: with one more right no price becomes higher, with a greater fee none lower: the law. -/
import Derived.Test.YtcjcacbhkoainaaGreatDoorDk14
set_option linter.constructorNameAsVariable false
set_option linter.unusedSimpArgs false
set_option linter.unusedVariables false
set_option linter.unusedSectionVars false
namespace Go.Proofs.YtcjcacbhkoainaaGreatDoor
open Go Go.Proofs Go.RowKit
set_option maxHeartbeats 1000000
end Go.Proofs.YtcjcacbhkoainaaGreatDoor
