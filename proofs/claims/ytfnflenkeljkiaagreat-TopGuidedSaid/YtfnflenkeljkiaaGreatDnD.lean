/- Printed: what functions of the program compute. -/
import Derived.Test.YtfnflenkeljkiaaGreatNi
import Derived.Test.YtfnflenkeljkiaaGreatDnM
set_option linter.constructorNameAsVariable false
set_option linter.unusedSimpArgs false
set_option linter.unusedVariables false
set_option linter.unusedSectionVars false
namespace Go.Proofs.YtfnflenkeljkiaaGreat
open Go Go.Proofs Go.RowKit
set_option maxRecDepth 20000
noncomputable section
noncomputable def qqO(n:Nat):CL Tryz.prog:=⟨[qmx n,qjg n,qnV n,qjs n],[],0,nof⟩
def qmy(n:Nat):Ct Tryz.prog:=mkC tab (qqO n) [] Tryz.func10 [] [T4] (by kernel_rfl)
noncomputable def qeF(n:Nat):CL Tryz.prog:=⟨[qln n,qhw n,qlq n,qhC n,qgR n,qi4 n,qmy n,qo5 n,qi1 n,qn8 n,qmx n],[],0,nof⟩
def qi5(n:Nat):LK Tryz.prog false:=mkL tab (qeF n) [] Tryz.f3 [true,true,true,true,true,true,true,false,true,false,false,true,false,false,true,true,true,false,true,false,false] 1 n [.v (.t 8) T23,.v (.t 11) T23,.v (.t 13) T36,.v (.t 14) T3,.v (.t 16) T3,.obj (.t 3) false 29 10,.v (.c 0 0) T29,.obj (.t 4) false 32 2,.v (.c 1 0) T32,.obj (.t 5) false 34 3,.v (.c 2 0) T34,.obj (.t 10) false 49 4,.v (.c 3 0) T49,.obj (.t 15) false 49 4,.v (.c 4 0) T49] [(.exit 2,[.v (.t 8) T23,.v (.t 11) T23,.v (.t 13) T36,.v (.t 14) T3,.obj (.t 3) false 29 10,.v (.c 0 0) T29,.obj (.t 4) false 32 2,.v (.c 1 0) T32,.obj (.t 5) false 34 3,.v (.c 2 0) T34,.obj (.t 10) false 49 4,.v (.c 3 0) T49,.obj (.t 15) false 49 4,.v (.c 4 0) T49]),(.ret,[.v (.t 6) T4])] (by kernel_rfl)
def qi6(n:Nat):LK Tryz.prog false:=mkL tab (qeF n) [] Tryz.f3 [true,true,true,true,true,true,true,false,true,false,false,true,false,false,true,true,true,true,true,true,true,false,false] 2 n [.v (.t 8) T23,.v (.t 11) T23,.v (.t 13) T36,.v (.t 14) T3,.v (.t 19) T23,.v (.t 22) T3,.obj (.t 3) false 29 10,.v (.c 0 0) T29,.obj (.t 4) false 32 2,.v (.c 1 0) T32,.obj (.t 5) false 34 3,.v (.c 2 0) T34,.obj (.t 10) false 49 4,.v (.c 3 0) T49] [(.exit 4,[.v (.t 8) T23,.v (.t 11) T23,.v (.t 13) T36,.v (.t 14) T3,.obj (.t 3) false 29 10,.v (.c 0 0) T29,.obj (.t 4) false 32 2,.v (.c 1 0) T32,.obj (.t 5) false 34 3,.v (.c 2 0) T34,.obj (.t 10) false 49 4,.v (.c 3 0) T49]),(.ret,[.v (.t 6) T4])] (by kernel_rfl)
def qi7(n:Nat):LK Tryz.prog false:=mkL tab (qeF n) [qi5 n,qi6 n] Tryz.f3 [true,true,true,true,true,true,true,false,true,false,false] 0 n [.v (.t 8) T23,.v (.t 11) T23,.v (.t 13) T36,.v (.t 14) T3,.obj (.t 3) false 29 10,.v (.c 0 0) T29,.obj (.t 4) false 32 2,.v (.c 1 0) T32,.obj (.t 5) false 34 3,.v (.c 2 0) T34,.obj (.t 10) false 49 4,.v (.c 3 0) T49] [(.exit 0,[]),(.ret,[.v (.t 6) T4])] (by kernel_rfl)
def qdR(n:Nat):Ct Tryz.prog:=mkC tab (qeF n) [qi7 n] Tryz.func3 [.d T29,.d T32,.d T34] [T4] (by kernel_rfl)
end
end Go.Proofs.YtfnflenkeljkiaaGreat
