/- Printed: what functions of the program compute. -/
import Derived.Test.YtbdockhccdkdiaaGreatNh
import Derived.Test.YtbdockhccdkdiaaGreatDnZ
set_option linter.constructorNameAsVariable false
set_option linter.unusedSimpArgs false
set_option linter.unusedVariables false
set_option linter.unusedSectionVars false
namespace Go.Proofs.YtbdockhccdkdiaaGreat
open Go Go.Proofs Go.RowKit
set_option maxRecDepth 20000
noncomputable section
section
def qgC(n:Nat):CL Tryz.prog:=⟨[qhU n],[],0,nof⟩
def qgD(n:Nat):LK Tryz.prog false:=mkL tab (qgC n) [] Tryz.f10 [true,false,true,false,false] 0 n [.v (.t 0) T22,.v (.t 3) T3] [(.exit 0,[.v (.t 0) T22]),(.ret,[.v (.t 2) T4])] (by kernel_rfl)
def qg2(n:Nat):Ct Tryz.prog:=mkC tab (qgC n) [qgD n] Tryz.func10 [.d T22] [T4] (by kernel_rfl)
def qj0(n:Nat):CL Tryz.prog:=⟨[qg2 n,qfG n],[],0,nof⟩
def qdp(n:Nat):Ct Tryz.prog:=mkC tab (qj0 n) [] Tryz.func6 [.d T22,.d T3,.d T4] [T28] (by kernel_rfl)
def qfW(n:Nat):CL Tryz.prog:=⟨[],[],0,nof⟩
def qh3(n:Nat):LK Tryz.prog false:=mkL tab (qfW n) [] Tryz.f9 [true,true,false,false,false,true,false,true,false,false] 1 n [.v (.t 1) T3,.v (.t 5) T23,.v (.t 7) T3,.row (.t 6) false T3 3] [(.exit 2,[.v (.t 1) T3,.v (.t 5) T23,.row (.t 6) false T3 3])] (by kernel_rfl)
def qh4(n:Nat):LK Tryz.prog false:=mkL tab (qfW n) [qh3 n] Tryz.f9 [true,true,false,false] 0 n [.v (.t 1) T3,.v (.t 5) T23] [(.ret,[.v (.t 4) T4])] (by kernel_rfl)
def qgf(n:Nat):Ct Tryz.prog:=mkC tab (qfW n) [qh4 n] Tryz.func9 [.d T23,.d T3] [T4] (by kernel_rfl)
def qiy(n:Nat):CL Tryz.prog:=⟨[],[],0,nof⟩
def qiz(n:Nat):LK Tryz.prog false:=mkL tab (qiy n) [] Tryz.f32 [true,true,false,true,false,false] 0 n [.v (.t 0) T22,.v (.t 1) T3,.v (.t 2) T4,.v (.t 8) T3,.row (.t 7) false T3 3] [(.exit 0,[.row (.t 7) false T3 3])] (by kernel_rfl)
def qgx(n:Nat):Ct Tryz.prog:=mkC tab (qiy n) [qiz n] Tryz.func32 [.d T22,.d T3,.d T4] [T23] (by kernel_rfl)
def qlO(n:Nat):CL Tryz.prog:=⟨[qdp n,qgf n,qgx n],[],0,nof⟩
def qiA(n:Nat):Ct Tryz.prog:=mkC tab (qlO n) [] Tryz.func11 [.d T22,.d T3] [T4,T4,T28] (by kernel_rfl)
def qh5(n:Nat):CL Tryz.prog:=⟨[],[],0,nof⟩
def qh6(n:Nat):LK Tryz.prog false:=mkL tab (qh5 n) [] Tryz.f55 [true,true,false,false,false] 0 n [.v (.t 0) T3,.v (.t 3) T3] [(.exit 0,[.v (.t 3) T3])] (by kernel_rfl)
def qiB(n:Nat):Ct Tryz.prog:=mkC tab (qh5 n) [qh6 n] Tryz.func55 [.d T3] [T3] (by kernel_rfl)
def qh7(n:Nat):CL Tryz.prog:=⟨[qgf n,qgx n,qiB n],[],0,nof⟩
def qh8(n:Nat):LK Tryz.prog false:=mkL tab (qh7 n) [] Tryz.f34 [true,true,false,true,false,false] 0 n [.v (.t 0) T22,.v (.t 1) T3,.v (.t 2) T3,.v (.t 7) T3,.v (.t 8) T3] [(.exit 0,[.v (.t 7) T3])] (by kernel_rfl)
def qgg(n:Nat):Ct Tryz.prog:=mkC tab (qh7 n) [qh8 n] Tryz.func34 [.d T22,.d T3,.d T3] [T3] (by kernel_rfl)
def qlP(n:Nat):CL Tryz.prog:=⟨[qdp n,qgg n],[],0,nof⟩
def qiC(n:Nat):Ct Tryz.prog:=mkC tab (qlP n) [] Tryz.func13 [.d T22,.d T3] [T3,T28] (by kernel_rfl)
def qhj(n:Nat):CL Tryz.prog:=⟨[],[],0,nof⟩
def qhk(n:Nat):LK Tryz.prog false:=mkL tab (qhj n) [] Tryz.f38 [true,true,false,true,false,false] 0 n [.v (.t 0) T3,.v (.t 4) T3,.row (.t 3) false T3 3] [(.exit 0,[.row (.t 3) false T3 3])] (by kernel_rfl)
def qhy(n:Nat):Ct Tryz.prog:=mkC tab (qhj n) [qhk n] Tryz.func38 [.d T3] [T23] (by kernel_rfl)
def qhz(n:Nat):CL Tryz.prog:=⟨[],[],0,nof⟩
def qhA(n:Nat):LK Tryz.prog false:=mkL tab (qhz n) [] Tryz.f39 [true,true,false,true,false,false] 0 n [.v (.t 0) T23,.v (.t 1) T23,.v (.t 5) T3] [(.exit 0,[]),(.ret,[.v (.t 4) T4])] (by kernel_rfl)
def qh9(n:Nat):Ct Tryz.prog:=mkC tab (qhz n) [qhA n] Tryz.func39 [.d T23,.d T23] [T4] (by kernel_rfl)
def qhB(n:Nat):CL Tryz.prog:=⟨[qdp n,qfG n,qgg n,qhy n,qh9 n],[],0,nof⟩
def qhC(n:Nat):LK Tryz.prog false:=mkL tab (qhB n) [] Tryz.f15 [true,true,true,true,false,true,false,false] 0 n [.v (.t 0) T22,.v (.t 1) T3,.v (.t 2) T3,.v (.t 9) T23,.v (.t 10) T4,.v (.t 11) T3] [(.exit 0,[.v (.t 9) T23,.v (.t 10) T4])] (by kernel_rfl)
def qia(n:Nat):Ct Tryz.prog:=mkC tab (qhB n) [qhC n] Tryz.func15 [.d T22,.d T3,.d T3] [T23,T28] (by kernel_rfl)
def qjH(n:Nat):CL Tryz.prog:=⟨[qiv n,qmz n,qiA n,qmA n,qiC n,qlK n,qia n,qeY n],[],0,nof⟩
def qcj(n:Nat):Ct Tryz.prog:=mkC tab (qjH n) [] Tryz.func4 [.d T22,.d T3,.d T3] [T4] (by kernel_rfl)
end
end
end Go.Proofs.YtbdockhccdkdiaaGreat
