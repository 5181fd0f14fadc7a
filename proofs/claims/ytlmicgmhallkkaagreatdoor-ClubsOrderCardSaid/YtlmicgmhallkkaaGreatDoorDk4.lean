/- Clubs, plain: the balances add up to 0, the guests pay the prices and the taxes. -/
import Derived.Test.YtlmicgmhallkkaaGreatDoorDk3
import Derived.Test.YtlmicgmhallkkaaGreatDoorPe
set_option linter.constructorNameAsVariable false
set_option linter.unusedSimpArgs false
set_option linter.unusedVariables false
set_option linter.unusedSectionVars false
namespace Go.Proofs.YtlmicgmhallkkaaGreatDoor
open Go Go.Proofs Go.RowKit
set_option maxHeartbeats 1000000
theorem qud{u:Uni}(h:chkU u=0):chkN u.1 u.2.1=0∧uniB u=true:=by
 unfold chkU at h
 by_cases hk:chkN u.1 u.2.1=0
 ·rw[if_pos hk] at h
  refine ⟨hk,?_⟩
  cases hu:uniB u with
  | true=>rfl
  | false=>rw[hu] at h;exact absurd h (by decide)
 ·rw[if_neg hk] at h;exact absurd h hk
theorem qw4{u:Uni}(hs:Small11 u)(h:chkU u=0):Okay u:=by
 refine qG0 hs ?_ h
 have h1:=(qBS (qud h).1).2.2.1
 rcases hs.ln with h | h<;>omega
end Go.Proofs.YtlmicgmhallkkaaGreatDoor
