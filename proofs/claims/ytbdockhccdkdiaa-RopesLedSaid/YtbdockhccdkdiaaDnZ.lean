/- Printed: what functions of the program compute. -/
import Derived.Test.YtbdockhccdkdiaaNh
set_option linter.constructorNameAsVariable false
set_option linter.unusedSimpArgs false
set_option linter.unusedVariables false
set_option linter.unusedSectionVars false
namespace Go.Proofs.Ytbdockhccdkdiaa
open Go Go.Proofs Go.RowKit
set_option maxRecDepth 20000
noncomputable section
noncomputable def qm8(n:Nat):CL Try.prog:=⟨[qoU n,qj8 n,qin n,qm0 n,qg9 n,qh8 n],[],0,nof⟩
def qjs(n:Nat):Ct Try.prog:=mkC tab (qm8 n) [] Try.func7 [] [T4] (by kernel_rfl)
end
end Go.Proofs.Ytbdockhccdkdiaa
