/- Texts Dp12, Dp13, Dp14, Dp15, Dp16 in one. -/
import Derived.Test.YtcjgodgpaokbnaaPb
import Derived.Test.YtcjgodgpaokbnaaDq3
/- Beds, plain: the reference's queue, and what requests need. -/
set_option linter.constructorNameAsVariable false
set_option linter.unusedSimpArgs false
set_option linter.unusedVariables false
set_option linter.unusedSectionVars false
namespace Go.Proofs.Ytcjgodgpaokbnaa
open Go Go.Proofs Go.RowKit
set_option maxHeartbeats 1000000
end Go.Proofs.Ytcjgodgpaokbnaa
/- Beds, plain: what requests need; the beds that a cancellation frees. -/
namespace Go.Proofs.Ytcjgodgpaokbnaa
open Go Go.Proofs Go.RowKit
set_option maxHeartbeats 1000000
end Go.Proofs.Ytcjgodgpaokbnaa
/- Beds, plain: queues. -/
namespace Go.Proofs.Ytcjgodgpaokbnaa
open Go Go.Proofs Go.RowKit
set_option maxHeartbeats 1000000
end Go.Proofs.Ytcjgodgpaokbnaa
/- Beds, plain: why a request waits. -/
namespace Go.Proofs.Ytcjgodgpaokbnaa
open Go Go.Proofs Go.RowKit
set_option maxHeartbeats 1000000
def qDc(q:List Msg)(id:Int):List Msg:=q.takeWhile fun m=>!decide (m.2.1=id)
end Go.Proofs.Ytcjgodgpaokbnaa
/- Beds, plain: parts of queues. -/
namespace Go.Proofs.Ytcjgodgpaokbnaa
open Go Go.Proofs Go.RowKit
set_option maxHeartbeats 1000000
end Go.Proofs.Ytcjgodgpaokbnaa
