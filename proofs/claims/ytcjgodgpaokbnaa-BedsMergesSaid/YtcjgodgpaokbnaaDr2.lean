/- How long the stays of a message that is an argument may be. -/
import Derived.Test.YtcjgodgpaokbnaaDr1
set_option linter.constructorNameAsVariable false
set_option linter.unusedSimpArgs false
set_option linter.unusedVariables false
set_option linter.unusedSectionVars false
namespace Go.Proofs.Ytcjgodgpaokbnaa
open Go Go.Proofs Go.RowKit
theorem qJ6{k:Nat}(h:k*wtL (Ty.sh T77)≤reachBytes):k≤5864062014805:=by
 have e:wtL (Ty.sh T77)=24:=by kernel_rfl
 have r:reachBytes=140737488351232:=rfl
 rw[e,r] at h
 omega
end Go.Proofs.Ytcjgodgpaokbnaa
