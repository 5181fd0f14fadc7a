/- Clubs, plain: the parts differ from the exact shares by less than 1, and add up. -/
import Derived.Test.YtlmicgmhallkkaaGreatDoorDk0
import Derived.Test.YtlmicgmhallkkaaGreatDoorPd
import Derived.Test.YtlmicgmhallkkaaGreatDoorDw3
set_option linter.constructorNameAsVariable false
set_option linter.unusedSimpArgs false
set_option linter.unusedVariables false
set_option linter.unusedSectionVars false
namespace Go.Proofs.YtlmicgmhallkkaaGreatDoor
open Go Go.Proofs Go.RowKit
set_option maxHeartbeats 1000000
theorem qxl(a:Int)(l:List Int):(qsQ a l).length=l.length:=by unfold qsQ;rw[qBo,List.length_map]
end Go.Proofs.YtlmicgmhallkkaaGreatDoor
