/- How long the slices of a union that is an argument may be. -/
import Derived.Test.YtcjcacbhkoainaaGreatDoorPe
import Derived.Test.YtcjcacbhkoainaaGreatDoorDr1
set_option linter.constructorNameAsVariable false
set_option linter.unusedSimpArgs false
set_option linter.unusedVariables false
set_option linter.unusedSectionVars false
namespace Go.Proofs.YtcjcacbhkoainaaGreatDoor
open Go Go.Proofs Go.RowKit
theorem qDt{k w:Nat}(h:k*w≤reachBytes)(hw:1≤w):k≤9223372036854775807:=by
 have r:reachBytes=140737488351232:=rfl
 have:k*1≤k*w:=Nat.mul_le_mul_left k hw
 omega
theorem qDu(u:Uni)(z:T41.lim u):u.2.1.length≤9223372036854775807∧u.2.2.2.2.1.length≤9223372036854775807 :=
 ⟨qDt z.2.1.1 (by decide +kernel),qDt z.2.2.2.2.1.1 (by decide +kernel)⟩
end Go.Proofs.YtcjcacbhkoainaaGreatDoor
