/- Printed: what functions of the program compute. -/
import Derived.Test.YtbdockhccdkdiaaDnM
import Derived.Test.YtbdockhccdkdiaaDnZ
set_option linter.constructorNameAsVariable false
set_option linter.unusedSimpArgs false
set_option linter.unusedVariables false
set_option linter.unusedSectionVars false
namespace Go.Proofs.Ytbdockhccdkdiaa
open Go Go.Proofs Go.RowKit
set_option maxRecDepth 20000
noncomputable section
noncomputable def qkL(n:Nat):CL Try.prog:=⟨[qjq n,qkz n,qjO n,qkG n,qfa n,qj7 n,qi6 n,qob n,qh9 n],[],0,nof⟩
def qcX(n:Nat):Ct Try.prog:=mkC tab (qkL n) [] Try.func4 [.d T47] [T4] (by kernel_rfl)
end
end Go.Proofs.Ytbdockhccdkdiaa
