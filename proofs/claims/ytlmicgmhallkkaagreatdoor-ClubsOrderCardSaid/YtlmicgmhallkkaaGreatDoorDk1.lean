/- Clubs, plain: the parts differ from the exact shares by less than 1, and add up. -/
import Derived.Test.YtlmicgmhallkkaaGreatDoorDk0
import Derived.Test.YtlmicgmhallkkaaGreatDoorPd
import Derived.Test.YtlmicgmhallkkaaGreatDoorDw3
set_option linter.constructorNameAsVariable false
set_option linter.unusedSimpArgs false
set_option linter.unusedVariables false
set_option linter.unusedSectionVars false
namespace Go.Proofs.YtlmicgmhallkkaaGreatDoor
open Go Go.Proofs Go.RowKit
set_option maxHeartbeats 1000000
theorem qFT{l m:List Int}(h:l.Perm m):l.sum=m.sum:=by
 induction h with
 | nil=>rfl
 | cons x _ ih=>simp[ih]
 | swap x y l=>simp;omega
 | trans _ _ h1 h2=>exact h1.trans h2
theorem qCR(a:Int)(l:List Int):(qts a l).length=l.length:=by unfold qts;rw[qB4,List.length_map]
end Go.Proofs.YtlmicgmhallkkaaGreatDoor
