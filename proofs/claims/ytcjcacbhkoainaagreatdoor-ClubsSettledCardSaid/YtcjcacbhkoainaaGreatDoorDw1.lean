/- Clubs: the examples of the law package, by computing: the accounts. -/
import Derived.Test.YtcjcacbhkoainaaGreatDoorDw0
set_option linter.constructorNameAsVariable false
set_option linter.unusedSimpArgs false
set_option linter.unusedVariables false
set_option linter.unusedSectionVars false
namespace Go.Proofs.YtcjcacbhkoainaaGreatDoor
open Go Go.Proofs Go.RowKit
set_option maxHeartbeats 1000000
set_option maxRecDepth 100000
theorem qzF(n:Nat):qhv (n+60) (exW,())=some ([8480,4403,169,900,-13952],(0,())):=by
 rw[qoq,qwt]
 kernel_rfl
theorem qzG(n:Nat):qej (n+60) (((5:Int)::((Int.negSucc (4:Nat))::((3:Int)::((Int.negSucc (1:Nat))::((Int.negSucc (0:Nat))::[]))))),())=some (3,(0,())):=by kernel_rfl
theorem qy7(n:Nat):qgb (n+60) ([8480,4403,169,900,-13952],(((8480:Int)::((4403:Int)::((169:Int)::((900:Int)::((Int.negSucc (13951:Nat))::[]))))),()))=some (true,()):=by kernel_rfl
end Go.Proofs.YtcjcacbhkoainaaGreatDoor
