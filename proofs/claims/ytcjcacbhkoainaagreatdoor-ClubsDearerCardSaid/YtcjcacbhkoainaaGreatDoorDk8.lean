/- Clubs, plain: the reference's stays, bookings and fees. -/
import Derived.Test.YtcjcacbhkoainaaGreatDoorDk7
import Derived.Test.YtcjcacbhkoainaaGreatDoorDk2
import Derived.Test.YtcjcacbhkoainaaGreatDoorPd
set_option linter.constructorNameAsVariable false
set_option linter.unusedSimpArgs false
set_option linter.unusedVariables false
set_option linter.unusedSectionVars false
namespace Go.Proofs.YtcjcacbhkoainaaGreatDoor
open Go Go.Proofs Go.RowKit
set_option maxHeartbeats 1000000
theorem qFe{u:Uni}(V:Vld u.1 u.2.1){m:Msg}(h:m∈(offL u.1 u.2.1).1):m∈u.2.1∧m.1=1∧m∈qik u.2.1:=by
 have hq:=qoG.2 (qzi.1 (.inl h))
 exact ⟨(qnL.1 hq).1,qvF V.msgs hq,hq⟩
end Go.Proofs.YtcjcacbhkoainaaGreatDoor
