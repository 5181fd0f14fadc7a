/- Texts Dk6, Dk7 in one. -/
import Derived.Test.YtcjcacbhkoainaaGreatDoorRa
import Derived.Test.YtcjcacbhkoainaaGreatDoorDw2
/- printed by gen_dk6.py. Clubs, plain: what a stay costs, of a union whose fees lie in a row of their own. -/
set_option linter.constructorNameAsVariable false
set_option linter.unusedSimpArgs false
set_option linter.unusedVariables false
set_option linter.unusedSectionVars false
namespace Go.Proofs.YtcjcacbhkoainaaGreatDoor
open Go Go.Proofs Go.RowKit
set_option maxHeartbeats 1000000
def setF(u:Uni)(h:Int)(f:Int):Uni:=(u.1,(u.2.1,(u.2.2.1,(u.2.2.2.1.set h.toNat f,u.2.2.2.2))))
end Go.Proofs.YtcjcacbhkoainaaGreatDoor
