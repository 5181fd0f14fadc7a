/- Clubs: the law ClubsZero, plain. -/
import Derived.Test.YtlmicgmhallkkaaGreatDoorDk4
set_option linter.constructorNameAsVariable false
set_option linter.unusedSimpArgs false
set_option linter.unusedVariables false
set_option linter.unusedSectionVars false
namespace Go.Proofs.YtlmicgmhallkkaaGreatDoor
open Go Go.Proofs Go.RowKit
set_option maxHeartbeats 1000000
theorem qFV(n:Nat)(u:Uni)(hl:u.2.1.length≤9223372036854775807)(hl2:u.2.2.2.2.1.length≤9223372036854775807)(hn:u.2.1.length+u.2.2.2.2.1.length+9000≤n):qld n (u,())=some (!qrE u&&decide (chkU u=0),()):=by
 rw[qrT]
 simp only[qFK n u hl hl2 (by omega) (by omega),Option.bind_some]
 cases hf:qrE u with
 | true=>rfl
 | false =>
  simp only[Bool.not_false,cond_true,qzE n u (qvC hf) (by omega),Option.bind_some,Bool.true_and]
  rfl
end Go.Proofs.YtlmicgmhallkkaaGreatDoor
