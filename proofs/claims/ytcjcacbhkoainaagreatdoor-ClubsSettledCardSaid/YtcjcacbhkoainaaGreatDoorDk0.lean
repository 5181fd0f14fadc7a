/- Clubs, plain: an amount is split, part by part. -/
import Derived.Test.YtcjcacbhkoainaaGreatDoorPe
set_option linter.constructorNameAsVariable false
set_option linter.unusedSimpArgs false
set_option linter.unusedVariables false
set_option linter.unusedSectionVars false
namespace Go.Proofs.YtcjcacbhkoainaaGreatDoor
open Go Go.Proofs Go.RowKit
set_option maxHeartbeats 1000000
theorem qyB(u v:Int):iLt (cmpI u v) 0=decide (u<v):=by
 rcases qvd u v with ⟨e,h⟩ | ⟨e,h⟩ | ⟨e,h⟩<;>rw[e]<;>unfold iLt<;>simp<;>omega
end Go.Proofs.YtcjcacbhkoainaaGreatDoor
