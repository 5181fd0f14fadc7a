/- Clubs, plain: the fee that is enough. -/
import Derived.Test.YtcjcacbhkoainaaGreatDoorDk8
import Derived.Test.YtcjcacbhkoainaaGreatDoorRa
import Derived.Test.YtcjcacbhkoainaaGreatDoorPd
set_option linter.constructorNameAsVariable false
set_option linter.unusedSimpArgs false
set_option linter.unusedVariables false
set_option linter.unusedSectionVars false
namespace Go.Proofs.YtcjcacbhkoainaaGreatDoor
open Go Go.Proofs Go.RowKit
set_option maxHeartbeats 1000000
theorem qFS{u:Uni}{hut:Int}:setF u hut ((u.2.2.2.1[hut.toNat]?).getD 0)=u:=by
 unfold setF
 rw[show u.2.2.2.1.set hut.toNat ((u.2.2.2.1[hut.toNat]?).getD 0)=u.2.2.2.1 from ?_]
 by_cases h:hut.toNat<u.2.2.2.1.length
 ·rw[List.getElem?_eq_getElem h];simp
 ·exact List.set_eq_of_length_le (by omega)
end Go.Proofs.YtcjcacbhkoainaaGreatDoor
