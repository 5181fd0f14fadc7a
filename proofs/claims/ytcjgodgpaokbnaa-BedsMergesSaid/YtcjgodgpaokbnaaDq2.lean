/- printed by gen_eqf.py: models at plain types, and what they are, by computing. -/
import Derived.Test.YtcjgodgpaokbnaaNe
import Derived.Test.YtcjgodgpaokbnaaDq1
import Derived.Test.YtcjgodgpaokbnaaDq0
set_option linter.constructorNameAsVariable false
set_option linter.unusedSimpArgs false
set_option linter.unusedVariables false
set_option linter.unusedSectionVars false
namespace Go.Proofs.Ytcjgodgpaokbnaa
open Go Go.Proofs Go.RowKit
set_option maxRecDepth 100000
noncomputable def qb5(n:Nat)(x:Unit):(Option (Bool×Unit)):=qvR n x
theorem qAb(n:Nat)(x):qb5 n x=(Option.bind (qpT n ()) fun y=>(Option.bind (qvV n y) fun y1=>(Option.bind (qwT n y) fun y2=>(cond (iEq y1.2.1 (0:Int)) (cond (iEq y2.2.1 (0:Int)) (Option.bind (qk2 n (y1.1,(((5:Int)::((9:Int)::[])),()))) fun y3=>(cond y3.1 (Option.bind (qk2 n (y2.1,(((3:Int)::((8:Int)::[])),()))) fun y4=>(some y4)) (some (false,())))) (some (false,()))) (some (false,())))))):=by kernel_rfl
end Go.Proofs.Ytcjgodgpaokbnaa
