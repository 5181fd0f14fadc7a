/- Clubs, plain: the reference splits alike. -/
import Derived.Test.YtlmicgmhallkkaaGreatDoorDk1
set_option linter.constructorNameAsVariable false
set_option linter.unusedSimpArgs false
set_option linter.unusedVariables false
set_option linter.unusedSectionVars false
namespace Go.Proofs.YtlmicgmhallkkaaGreatDoor
open Go Go.Proofs Go.RowKit
set_option maxHeartbeats 1000000
theorem qGM{α:Type}{l:List α}{k:Nat}{x:α}(h:l[k]?=some x):lat l (k:Int)=some x:=by rw[qe4];exact h
end Go.Proofs.YtlmicgmhallkkaaGreatDoor
