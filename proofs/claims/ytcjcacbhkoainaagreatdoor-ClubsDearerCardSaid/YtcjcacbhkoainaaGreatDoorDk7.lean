/- Clubs, plain: what a hut brings in, and the lowest fee that is enough. -/
import Derived.Test.YtcjcacbhkoainaaGreatDoorDk6
import Derived.Test.YtcjcacbhkoainaaGreatDoorDw2
set_option linter.constructorNameAsVariable false
set_option linter.unusedSimpArgs false
set_option linter.unusedVariables false
set_option linter.unusedSectionVars false
namespace Go.Proofs.YtcjcacbhkoainaaGreatDoor
open Go Go.Proofs Go.RowKit
set_option maxHeartbeats 1000000
def setF(u:Uni)(h:Int)(f:Int):Uni:=(u.1,(u.2.1,(u.2.2.1,(u.2.2.2.1.set h.toNat f,u.2.2.2.2))))
end Go.Proofs.YtcjcacbhkoainaaGreatDoor
