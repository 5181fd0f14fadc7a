/- Printed: what functions of the program compute. -/
import Derived.Test.YtbdockhccdkdiaaDnK
set_option linter.constructorNameAsVariable false
set_option linter.unusedSimpArgs false
set_option linter.unusedVariables false
set_option linter.unusedSectionVars false
namespace Go.Proofs.Ytbdockhccdkdiaa
open Go Go.Proofs Go.RowKit
set_option maxRecDepth 20000
noncomputable section
noncomputable def qjE(n:Nat):CL Try.prog:=⟨[qin n,qjA n,qf6 n,qju n,qfi n,qfX n],[],0,nof⟩
def qgX(n:Nat):Ct Try.prog:=mkC tab (qjE n) [] Try.func7 [] [T4] (by kernel_rfl)
noncomputable def qbV(n:Nat):CL Try.prog:=⟨[qfo n,qgX n,qkm n,qin n,qf7 n,qg0 n],[],0,nof⟩
def qe7(n:Nat):LK Try.prog false:=mkL tab (qbV n) [] Try.f3 [true,true,false,true,false,false] 0 n [.v (.t 0) T22,.v (.t 5) T3,.obj (.t 3) false 25 4,.v (.c 0 0) T25] [(.exit 0,[.v (.t 0) T22,.obj (.t 3) false 25 4,.v (.c 0 0) T25]),(.ret,[.v (.t 4) T4])] (by kernel_rfl)
def qe8(n:Nat):LK Try.prog false:=mkL tab (qbV n) [] Try.f3 [true,true,true,true,true,true,true,true,false,true,false,false] 1 n [.v (.t 0) T22,.v (.t 6) T3,.v (.t 8) T23,.v (.t 12) T3,.v (.t 13) T3,.obj (.t 3) false 25 4,.v (.c 0 0) T25] [(.exit 2,[.v (.t 0) T22,.v (.t 6) T3,.v (.t 8) T23,.v (.t 12) T3,.obj (.t 3) false 25 4,.v (.c 0 0) T25]),(.ret,[.v (.t 4) T4])] (by kernel_rfl)
def qe9(n:Nat):LK Try.prog false:=mkL tab (qbV n) [] Try.f3 [true,true,true,true,true,true,true,true,true,true,true,false,true,false,false,true,false,false,true,false,false] 3 n [.v (.t 0) T22,.v (.t 6) T3,.v (.t 8) T23,.v (.t 12) T3,.v (.t 14) T4,.v (.t 15) T3,.v (.t 16) T3,.obj (.t 3) false 25 4,.v (.c 0 0) T25] [(.exit 6,[.v (.t 0) T22,.v (.t 6) T3,.v (.t 8) T23,.v (.t 12) T3,.v (.t 14) T4,.v (.t 15) T3,.obj (.t 3) false 25 4,.v (.c 0 0) T25]),(.ret,[.v (.t 4) T4])] (by kernel_rfl)
def qfa(n:Nat):LK Try.prog false:=mkL tab (qbV n) [qe9 n] Try.f3 [true,true,true,true,true,true,true,true,true,true,true,false,true,false,false] 2 n [.v (.t 0) T22,.v (.t 6) T3,.v (.t 8) T23,.v (.t 12) T3,.v (.t 14) T4,.v (.t 15) T3,.obj (.t 3) false 25 4,.v (.c 0 0) T25] [(.exit 4,[.v (.t 0) T22,.v (.t 8) T23,.v (.t 14) T4,.obj (.t 3) false 25 4,.v (.c 0 0) T25]),(.ret,[.v (.t 4) T4])] (by kernel_rfl)
def qb7(n:Nat):Ct Try.prog:=mkC tab (qbV n) [qe7 n,qe8 n,qfa n] Try.func3 [.d T22,.d T25] [T4] (by kernel_rfl)
end
end Go.Proofs.Ytbdockhccdkdiaa
