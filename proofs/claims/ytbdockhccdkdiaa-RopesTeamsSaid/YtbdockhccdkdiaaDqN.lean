/- printed by gen_eqf.py: models at plain types, and what they are, by computing. -/
import Derived.Test.YtbdockhccdkdiaaDnN
import Derived.Test.YtbdockhccdkdiaaQe
import Derived.Test.YtbdockhccdkdiaaDqZ
import Derived.Test.YtbdockhccdkdiaaQa
set_option linter.constructorNameAsVariable false
set_option linter.unusedSimpArgs false
set_option linter.unusedVariables false
set_option linter.unusedSectionVars false
namespace Go.Proofs.Ytbdockhccdkdiaa
open Go Go.Proofs Go.RowKit
set_option maxRecDepth 100000
noncomputable def qdW(n:Nat)(x:((Int×(Int×(Int×((List Stay)×((List Int)×((Int×(Int×(Int×(List (Int×Int)))))×(List (Int×(Int×(Int×(List (Int×((Int×Int)×(Int×Int))))))))))))))×Unit)):(Option (Bool×Unit)):=(qcX n).M x
theorem qkb(n:Nat)(x):qdW n x=(Option.bind (qhO n x) fun y=>(cond y.1 (Option.bind (qc9 n ()) fun y1=>(some y1)) (Option.bind (qhe n x) fun y1=>(Option.bind (qiz n y1) fun y2=>(Option.bind (qd5 n x) fun y3=>(cond (iNe y2.1 y3.1) (some (false,())) (Option.bind (qeq n y1) fun y4=>(Option.bind (qdT n x) fun y5=>(Option.bind (qgY n y1) fun y6=>(cond (iNe y4.1 y5.1) (some (false,())) (cond (iNe y4.2.1 y5.2.1) (some (false,())) (cond (iNe y6.2.2.1 y5.2.1) (some (false,())) (cond (iNe y6.2.2.1 (0:Int)) (cond (iEq (((List.length y6.1):Nat):Int) (0:Int)) (cond (iEq (((List.length y6.2.1):Nat):Int) (0:Int)) (Option.bind (qc9 n ()) fun y7=>(some y7)) (some (false,()))) (some (false,()))) (Option.bind (qfN n (x.1,(y6.1,(y6.2.1,())))) fun y7=>(cond y7.1 (Option.bind (qc9 n ()) fun y8=>(some y8)) (some (false,()))))))))))))))))):=by kernel_rfl
end Go.Proofs.Ytbdockhccdkdiaa
