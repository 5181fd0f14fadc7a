/- printed by gen_eqf.py: models at plain types, and what they are, by computing. -/
import Derived.Test.YtbdockhccdkdiaaDnZ
import Derived.Test.YtbdockhccdkdiaaQc
import Derived.Test.YtbdockhccdkdiaaQa
set_option linter.constructorNameAsVariable false
set_option linter.unusedSimpArgs false
set_option linter.unusedVariables false
set_option linter.unusedSectionVars false
namespace Go.Proofs.Ytbdockhccdkdiaa
open Go Go.Proofs Go.RowKit
set_option maxRecDepth 100000
noncomputable def qu(n:Nat)(x:Unit):(Option (Bool×Unit)):=(qjs n).M x
theorem qlQ(n:Nat)(x):qu n x=(Option.bind (qgc n ()) fun y=>(Option.bind (lat y.1.2.2.2.2.2.2 (0:Int)) fun y1=>(Option.bind (qj9 n (y.1.2.2.2.2.2.1,(y1,((300:Int),())))) fun y2=>(Option.bind (qlw n (y.2.1,((10:Int),((20:Int),())))) fun y3=>(Option.bind (qev n (y.1,())) fun y4=>(cond (iEq y2.2.1 (0:Int)) (cond (iEq y3.2.1 (0:Int)) (cond (iEq y4.2.1 (0:Int)) (Option.bind (qhc n ((1:Int),((5:Int),()))) fun y5=>(cond (Ty.eqB (Ty.pr (Ty.i .i64) (Ty.i .i64)) y2.1 y5.1) (Option.bind (qfN n (y3.1,(((0:Int)::((1:Int)::[])),()))) fun y6=>(cond y6.1 (some ((iEq y4.1 (2:Int)),())) (some (false,())))) (some (false,())))) (some (false,()))) (some (false,()))) (some (false,())))))))):=by kernel_rfl
end Go.Proofs.Ytbdockhccdkdiaa
