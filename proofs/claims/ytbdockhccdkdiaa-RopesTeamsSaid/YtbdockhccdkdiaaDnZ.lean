/- Printed: what functions of the program compute. -/
import Derived.Test.YtbdockhccdkdiaaNh
set_option linter.constructorNameAsVariable false
set_option linter.unusedSimpArgs false
set_option linter.unusedVariables false
set_option linter.unusedSectionVars false
namespace Go.Proofs.Ytbdockhccdkdiaa
open Go Go.Proofs Go.RowKit
set_option maxRecDepth 20000
noncomputable section
noncomputable def qnc(n:Nat):CL Try.prog:=⟨[qoU n,qj7 n,qij n,qm4 n,qg7 n,qh4 n],[],0,nof⟩
def qjq(n:Nat):Ct Try.prog:=mkC tab (qnc n) [] Try.func7 [] [T4] (by kernel_rfl)
end
end Go.Proofs.Ytbdockhccdkdiaa
