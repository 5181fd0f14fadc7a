/- Printed: what functions of the program compute. -/
import Derived.Test.YtbdockhccdkdiaaGreatDnK
set_option linter.constructorNameAsVariable false
set_option linter.unusedSimpArgs false
set_option linter.unusedVariables false
set_option linter.unusedSectionVars false
namespace Go.Proofs.YtbdockhccdkdiaaGreat
open Go Go.Proofs Go.RowKit
set_option maxRecDepth 20000
noncomputable section
noncomputable def qkw(n:Nat):CL Tryz.prog:=⟨[qgC n,qgL n,qkn n,qlV n,qkt n,qfV n],[],0,nof⟩
def qhC(n:Nat):Ct Tryz.prog:=mkC tab (qkw n) [] Tryz.func7 [] [T4] (by kernel_rfl)
end
end Go.Proofs.YtbdockhccdkdiaaGreat
