/- Clubs, plain: a higher fee brings in no less. -/
import Derived.Test.YtcjcacbhkoainaaGreatDoorDk9
set_option linter.constructorNameAsVariable false
set_option linter.unusedSimpArgs false
set_option linter.unusedVariables false
set_option linter.unusedSectionVars false
namespace Go.Proofs.YtcjcacbhkoainaaGreatDoor
open Go Go.Proofs Go.RowKit
set_option maxHeartbeats 1000000
def prV(en:Bool)(me f:Int):Int:=cond en ((f*(100-me)+99)/100) f
end Go.Proofs.YtcjcacbhkoainaaGreatDoor
