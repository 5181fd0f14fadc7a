/- Printed: what functions of the program compute. -/
import Derived.Test.YtbdockhccdkdiaaDnM
import Derived.Test.YtbdockhccdkdiaaDnZ
set_option linter.constructorNameAsVariable false
set_option linter.unusedSimpArgs false
set_option linter.unusedVariables false
set_option linter.unusedSectionVars false
namespace Go.Proofs.Ytbdockhccdkdiaa
open Go Go.Proofs Go.RowKit
set_option maxRecDepth 20000
noncomputable section
noncomputable def qhV(n:Nat):CL Try.prog:=⟨[qjs n,qky n,qfh n,qj8 n,qob n,qid n,qjR n,qpS n],[],0,nof⟩
def qhW(n:Nat):LK Try.prog false:=mkL tab (qhV n) [] Try.f5 [true,true,true,true,true,false,true,false,false] 0 n [.v (.t 1) T23,.v (.t 2) T23,.v (.t 8) T23,.v (.t 9) T26,.v (.t 10) T3,.v (.t 12) T3,.obj (.t 3) false 47 10,.v (.c 0 0) T47] [(.exit 0,[.v (.t 1) T23,.v (.t 2) T23,.v (.t 9) T26,.v (.t 10) T3,.obj (.t 3) false 47 10,.v (.c 0 0) T47]),(.ret,[.v (.t 6) T4])] (by kernel_rfl)
def qdh(n:Nat):Ct Try.prog:=mkC tab (qhV n) [qhW n] Try.func5 [.d T47,.d T23,.d T23] [T4] (by kernel_rfl)
end
end Go.Proofs.Ytbdockhccdkdiaa
