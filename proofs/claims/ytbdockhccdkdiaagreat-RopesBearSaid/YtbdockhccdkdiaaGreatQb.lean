/- Texts DqR, DqV in one. -/
import Derived.Test.YtbdockhccdkdiaaGreatNf
import Derived.Test.YtbdockhccdkdiaaGreatQa
/- printed by gen_eqf.py: models at plain types, and what they are, by computing. -/
set_option linter.constructorNameAsVariable false
set_option linter.unusedSimpArgs false
set_option linter.unusedVariables false
set_option linter.unusedSectionVars false
namespace Go.Proofs.YtbdockhccdkdiaaGreat
open Go Go.Proofs Go.RowKit
set_option maxRecDepth 100000
noncomputable section
def qh6(n:Nat)(x:(Int×(Int×(Int×Unit)))):(Option (Bool×Unit)):=(qbS n).M x
def qhA(n:Nat)(x:((Int×Int)×(Int×(Int×Unit)))):(Option (Bool×Unit)):=(qf2 n).M x
def qfk(n:Nat)(x:(Int×(Int×(Int×Unit)))):(Option (Bool×Unit)):=(qg8 n).M x
def qfl(n:Nat)(x:((Int×Int)×(Int×(Int×Unit)))):(Option (Bool×Unit)):=(qg9 n).M x
def qfY(n:Nat)(x:(Int×(Int×Unit))):(Option ((Int×Int)×Unit)):=(qfV n).M x
def qeU(n:Nat)(x:Unit):(Option ((Int×(Int×(Int×((List Stay)×((List Int)×((Int×(Int×(Int×(List (Int×Int)))))×(List (Int×(Int×(Int×(List (Int×((Int×Int)×(Int×Int))))))))))))))×((List Stay)×Unit))):=(qgL n).M x
def qey(n:Nat)(x:((List Int)×((List Int)×Unit))):(Option (Bool×Unit)):=(qgC n).M x
def qdf(n:Nat)(x:(Int×Unit)):(Option (Bool×Unit)):=(qhv n).M x
def qh7(n:Nat)(x:(Int×(Int×Unit))):(Option (Bool×Unit)):=(qh2 n).M x
def qgG(n:Nat)(x:(Int×(Int×Unit))):(Option (Int×Unit)):=(qe8 n).M x
def qjf(n:Nat)(x:((List Stay)×(Int×(Int×Unit)))):(Option ((List Int)×(Int×Unit))):=(qlV n).M x
theorem qmA(n:Nat)(x):qh6 n x=(cond (iLe x.2.1 x.1) (some ((iLe x.1 x.2.2.1),())) (some (false,()))):=by kernel_rfl
theorem ql3(n:Nat)(x):qhA n x=(cond (iLe x.2.1 x.1.1) (cond (iLe x.1.1 x.1.2) (some ((iLe x.1.2 x.2.2.1),())) (some (false,()))) (some (false,()))):=by kernel_rfl
theorem qjg(n:Nat)(x):qfk n x=(cond (iGe x.1 x.2.1) (some ((iLe x.1 x.2.2.1),())) (some (false,()))):=by kernel_rfl
theorem qjh(n:Nat)(x):qfl n x=(cond (iGe x.1.1 x.2.1) (cond (iLe x.1.1 x.1.2) (some ((iLe x.1.2 x.2.2.1),())) (some (false,()))) (some (false,()))):=by kernel_rfl
theorem qiu(n:Nat)(x):qdf n x=(some ((iNe x.1 x.1),())):=by kernel_rfl
theorem qmB(n:Nat)(x):qh7 n x=(Option.bind (qdf n (x.1,())) fun y=>(cond y.1 (Option.bind (qdf n x.2) fun y1=>(cond (!y1.1) (some (true,())) (some ((iLt x.1 x.2.1),())))) (some ((iLt x.1 x.2.1),())))):=by kernel_rfl
theorem qk6(n:Nat)(x):qgG n x=(Option.bind (qdf n (x.1,())) fun y=>(Option.bind (qdf n x.2) fun y1=>(cond y.1 (cond y1.1 (some ((0:Int),())) (some ((Int.negSucc (0:Nat)),()))) (cond y1.1 (some ((1:Int),())) (cond (iLt x.1 x.2.1) (some ((Int.negSucc (0:Nat)),())) (cond (iGt x.1 x.2.1) (some ((1:Int),())) (some ((0:Int),())))))))):=by kernel_rfl
def qh8(n:Nat)(x:((Int×(Int×(Int×(List (Int×Int)))))×((Int×(Int×(Int×(List (Int×((Int×Int)×(Int×Int)))))))×(Int×Unit)))):(Option ((Int×Int)×(Int×Unit))):=(qkn n).M x
end
end Go.Proofs.YtbdockhccdkdiaaGreat
