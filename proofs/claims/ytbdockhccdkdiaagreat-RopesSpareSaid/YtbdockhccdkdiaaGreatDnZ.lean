/- Printed: what functions of the program compute. -/
import Derived.Test.YtbdockhccdkdiaaGreatDnK
set_option linter.constructorNameAsVariable false
set_option linter.unusedSimpArgs false
set_option linter.unusedVariables false
set_option linter.unusedSectionVars false
namespace Go.Proofs.YtbdockhccdkdiaaGreat
open Go Go.Proofs Go.RowKit
set_option maxRecDepth 20000
noncomputable section
noncomputable def qlV(n:Nat):CL Tryz.prog:=⟨[qhn n,qhy n,qlI n,qnn n,qlO n,qgE n],[],0,nof⟩
def qgq(n:Nat):Ct Tryz.prog:=mkC tab (qlV n) [] Tryz.func7 [] [T4] (by kernel_rfl)
end
end Go.Proofs.YtbdockhccdkdiaaGreat
