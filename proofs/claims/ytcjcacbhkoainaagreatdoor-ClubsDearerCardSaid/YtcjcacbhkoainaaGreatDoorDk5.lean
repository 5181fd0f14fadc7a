/- Clubs: the law ClubsZero, plain. -/
import Derived.Test.YtcjcacbhkoainaaGreatDoorDk4
set_option linter.constructorNameAsVariable false
set_option linter.unusedSimpArgs false
set_option linter.unusedVariables false
set_option linter.unusedSectionVars false
namespace Go.Proofs.YtcjcacbhkoainaaGreatDoor
open Go Go.Proofs Go.RowKit
set_option maxHeartbeats 1000000
theorem qD6(n:Nat)(u:Uni)(hl:u.2.1.length≤9223372036854775807)(hl2:u.2.2.2.2.1.length≤9223372036854775807)(hn:u.2.1.length+u.2.2.2.2.1.length+9000≤n):qks n (u,())=some (!qqo u&&decide (chkU u=0),()):=by
 rw[qqE]
 simp only[qD0 n u hl hl2 (by omega) (by omega),Option.bind_some]
 cases hf:qqo u with
 | true=>rfl
 | false =>
  simp only[Bool.not_false,cond_true,qs6 n u (quk hf) (by omega),Option.bind_some,Bool.true_and]
  rfl
end Go.Proofs.YtcjcacbhkoainaaGreatDoor
