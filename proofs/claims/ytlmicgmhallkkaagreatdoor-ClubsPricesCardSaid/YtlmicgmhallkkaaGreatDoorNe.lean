/- Texts DnA, DnB, DnC, DnD, DnF, DnG, DnH, DnI, DnE, DnJ in one. -/
import Derived.Test.YtlmicgmhallkkaaGreatDoorDnT
import Derived.Test.YtlmicgmhallkkaaGreatDoorNd
import Derived.Test.YtlmicgmhallkkaaGreatDoorKc
/- Printed: what functions of the program compute. -/
set_option linter.constructorNameAsVariable false
set_option linter.unusedSimpArgs false
set_option linter.unusedVariables false
set_option linter.unusedSectionVars false
namespace Go.Proofs.YtlmicgmhallkkaaGreatDoor
open Go Go.Proofs Go.RowKit
set_option maxRecDepth 20000
noncomputable section
section
def qt3(n:Nat):CL Tryz.prog:=⟨[],[],0,nof⟩
def qfM(n:Nat):Ct Tryz.prog:=mkC tab (qt3 n) [] Tryz.func147 [.d T3,.d T3,.d T3] [T4] (by kernel_rfl)
def qnS(n:Nat):CL Tryz.prog:=⟨[qfM n],[],0,nof⟩
def qnT(n:Nat):LK Tryz.prog false:=mkL tab (qnS n) [] Tryz.f113 [true,false,true,false,false] 0 n [.v (.t 3) T3,.obj (.t 1) false 34 2,.v (.c 0 0) T34] [(.exit 0,[.obj (.t 1) false 34 2,.v (.c 0 0) T34]),(.ret,[.v (.t 2) T4])] (by kernel_rfl)
def qoc(n:Nat):Ct Tryz.prog:=mkC tab (qnS n) [qnT n] Tryz.func113 [.d T34] [T4] (by kernel_rfl)
def qmr(n:Nat):CL Tryz.prog:=⟨[qfM n],[],0,nof⟩
def qms(n:Nat):LK Tryz.prog false:=mkL tab (qmr n) [] Tryz.f148 [true,true,true,false,true,false,false] 0 n [.v (.t 5) T3,.v (.t 6) T3,.obj (.t 2) false 34 2,.v (.c 0 0) T34,.obj (.t 3) false 91 5,.v (.c 1 0) T91] [(.exit 0,[]),(.ret,[.v (.t 4) T4])] (by kernel_rfl)
def qm3(n:Nat):Ct Tryz.prog:=mkC tab (qmr n) [qms n] Tryz.func148 [.d T34,.d T91] [T4] (by kernel_rfl)
def qlc(n:Nat):CL Tryz.prog:=⟨[qfM n,qm3 n],[],0,nof⟩
def qld(n:Nat):LK Tryz.prog false:=mkL tab (qlc n) [] Tryz.f114 [true,false,true,false,false] 0 n [.v (.t 1) T35,.v (.t 5) T3,.obj (.t 2) false 34 2,.v (.c 0 0) T34] [(.exit 0,[.v (.t 1) T35]),(.ret,[.v (.t 4) T4])] (by kernel_rfl)
def qlR(n:Nat):Ct Tryz.prog:=mkC tab (qlc n) [qld n] Tryz.func114 [.d T34,.d T35] [T4] (by kernel_rfl)
def qoT(n:Nat):CL Tryz.prog:=⟨[],[],0,nof⟩
def qoU(n:Nat):LK Tryz.prog false:=mkL tab (qoT n) [] Tryz.f149 [true,true,false,true,false,false] 0 n [.v (.t 5) T3,.obj (.t 2) false 91 5,.v (.c 0 0) T91,.obj (.t 3) false 91 5,.v (.c 1 0) T91] [(.exit 0,[]),(.ret,[.v (.t 4) T4])] (by kernel_rfl)
def qpz(n:Nat):Ct Tryz.prog:=mkC tab (qoT n) [qoU n] Tryz.func149 [.d T91,.d T91] [T4] (by kernel_rfl)
def qkK(n:Nat):CL Tryz.prog:=⟨[qpz n],[],0,nof⟩
def qoV(n:Nat):LK Tryz.prog false:=mkL tab (qkK n) [] Tryz.f115 [true,false,true,false,false,true,false,false,true,false,false] 1 n [.v (.t 0) T35,.v (.t 3) T3,.v (.t 4) T3] [(.exit 2,[.v (.t 0) T35,.v (.t 3) T3]),(.ret,[.v (.t 2) T4])] (by kernel_rfl)
def qoW(n:Nat):LK Tryz.prog false:=mkL tab (qkK n) [qoV n] Tryz.f115 [true,false,true,false,false] 0 n [.v (.t 0) T35,.v (.t 3) T3] [(.exit 0,[]),(.ret,[.v (.t 2) T4])] (by kernel_rfl)
def qpA(n:Nat):Ct Tryz.prog:=mkC tab (qkK n) [qoW n] Tryz.func115 [.d T35] [T4] (by kernel_rfl)
def quC(n:Nat):CL Tryz.prog:=⟨[qoc n,qlR n,qpA n],[],0,nof⟩
def qpB(n:Nat):Ct Tryz.prog:=mkC tab (quC n) [] Tryz.func74 [.d T34,.d T35] [T24] (by kernel_rfl)
def qgj(n:Nat):CL Tryz.prog:=⟨[],[],0,nof⟩
def qm4(n:Nat):LK Tryz.prog false:=mkL tab (qgj n) [] Tryz.f131 [true,true,false,true,false,false,true,false,false,true,false,false,true,false,false,true,false,false] 2 n [.v (.t 0) T35,.v (.t 4) T3,.v (.t 5) T3,.v (.t 6) T3,.row (.t 3) false T91 91] [(.exit 4,[.v (.t 0) T35,.v (.t 4) T3,.v (.t 5) T3,.row (.t 3) false T91 91])] (by kernel_rfl)
def qm5(n:Nat):LK Tryz.prog false:=mkL tab (qgj n) [qm4 n] Tryz.f131 [true,true,false,true,false,false,true,false,false,true,false,false] 1 n [.v (.t 0) T35,.v (.t 4) T3,.v (.t 5) T3,.row (.t 3) false T91 91] [(.exit 2,[.v (.t 0) T35,.v (.t 4) T3,.row (.t 3) false T91 91])] (by kernel_rfl)
def qm6(n:Nat):LK Tryz.prog false:=mkL tab (qgj n) [qm5 n] Tryz.f131 [true,true,false,true,false,false] 0 n [.v (.t 0) T35,.v (.t 4) T3,.row (.t 3) false T91 91] [(.exit 0,[.row (.t 3) false T91 91])] (by kernel_rfl)
def qnU(n:Nat):Ct Tryz.prog:=mkC tab (qgj n) [qm6 n] Tryz.func131 [.d T35] [T35] (by kernel_rfl)
def qkL(n:Nat):CL Tryz.prog:=⟨[qnU n],[],0,nof⟩
def qoX(n:Nat):LK Tryz.prog false:=mkL tab (qkL n) [] Tryz.f94 [true,true,true,false,true,false,false,true,false,false,true,true,true,false,false,false] 1 n [.v (.t 3) T35,.v (.t 5) T3,.v (.t 7) T3,.obj (.t 6) false 91 5,.v (.c 0 0) T91,.row (.t 4) false T91 91] [(.exit 2,[.v (.t 3) T35,.v (.t 5) T3,.v (.t 7) T3,.obj (.t 6) false 91 5,.v (.c 0 0) T91,.row (.t 4) false T91 91])] (by kernel_rfl)
def qoY(n:Nat):LK Tryz.prog false:=mkL tab (qkL n) [qoX n] Tryz.f94 [true,true,true,false,true,false,false] 0 n [.v (.t 3) T35,.v (.t 5) T3,.row (.t 4) false T91 91] [(.exit 0,[.row (.t 4) false T91 91])] (by kernel_rfl)
def qpC(n:Nat):Ct Tryz.prog:=mkC tab (qkL n) [qoY n] Tryz.func94 [.d T35] [T35] (by kernel_rfl)
def qkb(n:Nat):CL Tryz.prog:=⟨[qfM n],[],0,nof⟩
def qod(n:Nat):LK Tryz.prog false:=mkL tab (qkb n) [] Tryz.f173 [true,true,false,true,false,false,true,false,false,true,false,false] 1 n [.v (.t 0) T35,.v (.t 1) T3,.v (.t 2) T3,.v (.t 7) T3,.v (.t 8) T3,.v (.t 9) T3] [(.exit 2,[.v (.t 0) T35,.v (.t 1) T3,.v (.t 2) T3,.v (.t 7) T3,.v (.t 8) T3])] (by kernel_rfl)
def qoe(n:Nat):LK Tryz.prog false:=mkL tab (qkb n) [qod n] Tryz.f173 [true,true,false,true,false,false] 0 n [.v (.t 0) T35,.v (.t 1) T3,.v (.t 2) T3,.v (.t 7) T3,.v (.t 8) T3] [(.exit 0,[.v (.t 7) T3])] (by kernel_rfl)
def qoZ(n:Nat):Ct Tryz.prog:=mkC tab (qkb n) [qoe n] Tryz.func173 [.d T35,.d T3,.d T3] [T3] (by kernel_rfl)
end
section
def qyy(n:Nat):CL Tryz.prog:=⟨[],[],0,nof⟩
def qpD(n:Nat):Ct Tryz.prog:=mkC tab (qyy n) [] Tryz.func133 [.d T3] [T4] (by kernel_rfl)
def qzn(n:Nat):CL Tryz.prog:=⟨[qpD n],[],0,nof⟩
def qqP(n:Nat):Ct Tryz.prog:=mkC tab (qzn n) [] Tryz.func166 [.d T3,.d T3] [T4] (by kernel_rfl)
def qwL(n:Nat):CL Tryz.prog:=⟨[qpD n],[],0,nof⟩
def qgw(n:Nat):Ct Tryz.prog:=mkC tab (qwL n) [] Tryz.func100 [.d T3,.d T3] [T3] (by kernel_rfl)
def qwM(n:Nat):CL Tryz.prog:=⟨[],[],0,nof⟩
def qwN(n:Nat):LK Tryz.prog false:=mkL tab (qwM n) [] Tryz.f78 [true,true,false,true,false,false] 0 n [.v (.t 6) T35,.v (.t 7) T3,.v (.t 8) T3,.row (.t 3) false T3 3] [(.exit 0,[.row (.t 3) false T3 3])] (by kernel_rfl)
def qx9(n:Nat):Cw Tryz.prog:=mkW tab (qwM n) [qwN n] Tryz.func78 [.v (.t 0) T35] 1 [[.row (.t 0) false T3 3]] (by kernel_rfl)
def qeV(n:Nat):CL Tryz.prog:=⟨[qqP n],[],0,nof⟩
def qhN(n:Nat):LK Tryz.prog false:=mkL tab (qeV n) [] Tryz.f160 [true,false,false,true,false,false,true,false,false] 1 n [.v (.t 1) T3,.v (.t 2) T3,.v (.t 6) T3,.v (.t 7) T3,.row (.t 0) true T3 3] [(.exit 2,[.v (.t 1) T3,.v (.t 2) T3,.v (.t 6) T3,.row (.t 0) true T3 3])] (by kernel_rfl)
def qhO(n:Nat):LK Tryz.prog false:=mkL tab (qeV n) [qhN n] Tryz.f160 [true,false,false] 0 n [.v (.t 1) T3,.v (.t 2) T3,.v (.t 6) T3,.row (.t 0) true T3 3] [(.exit 0,[.row (.t 0) true T3 3])] (by kernel_rfl)
def qh7(n:Nat):Cw Tryz.prog:=mkW tab (qeV n) [qhO n] Tryz.func160 [.v (.t 1) T3,.v (.t 2) T3,.row (.t 0) true T3 3] 3 [[.row (.t 0) true T3 3]] (by kernel_rfl)
def qwO(n:Nat):CL Tryz.prog:=⟨[],[],0,nof⟩
def qrZ(n:Nat):Ct Tryz.prog:=mkC tab (qwO n) [] Tryz.func170 [.d T167] [T3] (by kernel_rfl)
def qyz(n:Nat):CL Tryz.prog:=⟨[qrZ n],[],0,nof⟩
def qmt(n:Nat):Ct Tryz.prog:=mkC tab (qyz n) [] Tryz.func123 [.d T70] [T3] (by kernel_rfl)
def qzo(n:Nat):CL Tryz.prog:=⟨[],[],0,nof⟩
def qg4(n:Nat):Ct Tryz.prog:=mkC tab (qzo n) [] Tryz.func134 [.d T3,.d T3,.d T3] [T4] (by kernel_rfl)
def qxI(n:Nat):CL Tryz.prog:=⟨[qg4 n],[],0,nof⟩
def qoA(n:Nat):Ct Tryz.prog:=mkC tab (qxI n) [] Tryz.func118 [.d T126,.d T3] [T4] (by kernel_rfl)
def qv5(n:Nat):CL Tryz.prog:=⟨[qg4 n],[],0,nof⟩
def qm7(n:Nat):Ct Tryz.prog:=mkC tab (qv5 n) [] Tryz.func119 [.d T126,.d T3] [T4] (by kernel_rfl)
def qqn(n:Nat):CL Tryz.prog:=⟨[qoA n,qm7 n,qg4 n],[],0,nof⟩
def qqo(n:Nat):LK Tryz.prog false:=mkL tab (qqn n) [] Tryz.f177 [true,true,false,true,false,false] 0 n [.v (.t 5) T3,.v (.t 8) T89,.v (.t 9) T3,.v (.t 10) T3,.obj (.t 2) false 126 2,.v (.c 0 0) T126] [(.exit 0,[]),(.ret,[.v (.t 4) T4])] (by kernel_rfl)
def qrk(n:Nat):Ct Tryz.prog:=mkC tab (qqn n) [qqo n] Tryz.func177 [.d T126,.d T89] [T4] (by kernel_rfl)
def quD(n:Nat):CL Tryz.prog:=⟨[qg4 n,qrk n],[],0,nof⟩
def qpE(n:Nat):Ct Tryz.prog:=mkC tab (quD n) [] Tryz.func139 [.d T126,.d T91] [T4] (by kernel_rfl)
def qvW(n:Nat):CL Tryz.prog:=⟨[],[],0,nof⟩
def qvX(n:Nat):LK Tryz.prog false:=mkL tab (qvW n) [] Tryz.f159 [true,true,false,true,false,false] 0 n [.v (.t 3) T3,.v (.t 6) T22,.v (.t 7) T3,.v (.t 8) T3] [(.exit 0,[.v (.t 3) T3]),(.ret,[.v (.t 2) T3])] (by kernel_rfl)
def qpF(n:Nat):Ct Tryz.prog:=mkC tab (qvW n) [qvX n] Tryz.func159 [.d T22] [T3] (by kernel_rfl)
def qvY(n:Nat):CL Tryz.prog:=⟨[],[],0,nof⟩
def qvZ(n:Nat):LK Tryz.prog false:=mkL tab (qvY n) [] Tryz.f140 [true,false,true,false,false] 0 n [.v (.t 0) T35,.v (.t 5) T35,.v (.t 6) T3,.v (.t 7) T3] [(.exit 0,[]),(.ret,[.v (.t 2) T4])] (by kernel_rfl)
def qwP(n:Nat):Ct Tryz.prog:=mkC tab (qvY n) [qvZ n] Tryz.func140 [.d T35] [T4] (by kernel_rfl)
def qpG(n:Nat):CL Tryz.prog:=⟨[],[],0,nof⟩
def qpH(n:Nat):LK Tryz.prog false:=mkL tab (qpG n) [] Tryz.f52 [true,true,false,true,false,false] 0 n [.v (.t 0) T35,.v (.t 4) T3,.row (.t 3) false T91 91] [(.exit 0,[.row (.t 3) false T91 91])] (by kernel_rfl)
def qqp(n:Nat):Ct Tryz.prog:=mkC tab (qpG n) [qpH n] Tryz.func52 [.d T35] [T35] (by kernel_rfl)
def qsi(n:Nat):CL Tryz.prog:=⟨[],[],0,nof⟩
def qm8(n:Nat):Ct Tryz.prog:=mkC tab (qsi n) [] Tryz.func51 [.d T34] [T34] (by kernel_rfl)
def qqq(n:Nat):CL Tryz.prog:=⟨[],[],0,nof⟩
def qqr(n:Nat):LK Tryz.prog false:=mkL tab (qqq n) [] Tryz.f45 [true,false,true,false,false] 0 n [.v (.t 1) T35,.v (.t 5) T3,.obj (.t 2) false 34 2,.v (.c 0 0) T34] [(.exit 0,[.v (.t 1) T35,.obj (.t 2) false 34 2,.v (.c 0 0) T34]),(.ret,[.v (.t 4) T4])] (by kernel_rfl)
def qrl(n:Nat):Ct Tryz.prog:=mkC tab (qqq n) [qqr n] Tryz.func45 [.d T34,.d T35] [T4] (by kernel_rfl)
def qtb(n:Nat):CL Tryz.prog:=⟨[],[],0,nof⟩
def qt4(n:Nat):Ct Tryz.prog:=mkC tab (qtb n) [] Tryz.func80 [] [T34,T35] (by kernel_rfl)
end
section
def qzp(n:Nat):CL Tryz.prog:=⟨[qgw n,qpF n],[],0,nof⟩
def qnJ(n:Nat):Ct Tryz.prog:=mkC tab (qzp n) [] Tryz.func158 [.d T91,.d T91] [T3] (by kernel_rfl)
def qwQ(n:Nat):CL Tryz.prog:=⟨[],[],0,nof⟩
def qn6(n:Nat):Cw Tryz.prog:=mkW tab (qwQ n) [] Tryz.func156 [.v (.t 0) T91,.obj (.t 1) true 91 5,.v (.c 0 0) T91] 2 [[.v (.t 0) T4,.obj (.t 1) true 91 5,.v (.c 0 0) T91]] (by kernel_rfl)
def qeY(n:Nat):CL Tryz.prog:=⟨[],[qn6 n],0,nof⟩
def qeZ(n:Nat):LK Tryz.prog false:=mkL tab (qeY n) [] Tryz.f58 [true,false,true,false,false] 0 n [.v (.t 0) T35,.v (.t 7) T3,.v (.t 8) T3,.fnc (.t 1) 156 [.box true 91 5],.v (.c 0 0) T91] [(.exit 0,[.fnc (.t 1) 156 [.box true 91 5],.v (.c 0 0) T91]),(.ret,[.v (.t 4) T3,.fnc (.t 1) 156 [.box true 91 5],.v (.c 0 0) T91])] (by kernel_rfl)
def qR(n:Nat):Cw Tryz.prog:=mkW tab (qeY n) [qeZ n] Tryz.func58 [.v (.t 0) T35,.fnc (.t 1) 156 [.box true 91 5],.v (.c 0 0) T91] 2 [[.v (.t 0) T3,.obj (.t 1) true 91 5,.v (.c 0 0) T91]] (by kernel_rfl)
def qiB(n:Nat):CL Tryz.prog:=⟨[],[qR n,qn6 n],0,nof⟩
def qcD(n:Nat):Cw Tryz.prog:=mkW tab (qiB n) [] Tryz.func137 [.v (.t 0) T35,.fnc (.t 1) 156 [.box true 91 5],.v (.c 0 0) T91] 2 [[.v (.t 0) T4,.obj (.t 1) true 91 5,.v (.c 0 0) T91]] (by kernel_rfl)
def qyA(n:Nat):CL Tryz.prog:=⟨[],[qcD n],0,nof⟩
def qpI(n:Nat):Cw Tryz.prog:=mkW tab (qyA n) [] Tryz.func155 [.v (.t 0) T91,.obj (.t 1) true 35 1,.v (.c 0 0) T35] 2 [[.v (.t 0) T4,.obj (.t 1) true 35 1,.v (.c 0 0) T35]] (by kernel_rfl)
def qbQ(n:Nat):CL Tryz.prog:=⟨[qnJ n],[],0,nof⟩
def qdB(n:Nat):LK Tryz.prog false:=mkL tab (qbQ n) [] Tryz.f195 [true,false,false,true,false,false,true,false,false] 1 n [.v (.t 1) T3,.v (.t 2) T3,.fn (.t 3) 158 [] [],.v (.t 8) T3,.v (.t 9) T3,.row (.t 0) true T91 91] [(.exit 2,[.v (.t 1) T3,.v (.t 2) T3,.fn (.t 3) 158 [] [],.v (.t 8) T3,.row (.t 0) true T91 91])] (by kernel_rfl)
def qdC(n:Nat):LK Tryz.prog false:=mkL tab (qbQ n) [qdB n] Tryz.f195 [true,false,false] 0 n [.v (.t 1) T3,.v (.t 2) T3,.fn (.t 3) 158 [] [],.v (.t 8) T3,.row (.t 0) true T91 91] [(.exit 0,[.row (.t 0) true T91 91])] (by kernel_rfl)
def qbU(n:Nat):Cw Tryz.prog:=mkW tab (qbQ n) [qdC n] Tryz.func195 [.v (.t 1) T3,.v (.t 2) T3,.fn (.t 3) 158 [] [],.row (.t 0) true T91 91] 4 [[.row (.t 0) true T91 91]] (by kernel_rfl)
def qxJ(n:Nat):CL Tryz.prog:=⟨[qgw n,qpF n],[],0,nof⟩
def qsL(n:Nat):Ct Tryz.prog:=mkC tab (qxJ n) [] Tryz.func194 [.d T95,.d T95] [T3] (by kernel_rfl)
def qfl(n:Nat):CL Tryz.prog:=⟨[qsL n],[],0,nof⟩
def qfm(n:Nat):LK Tryz.prog false:=mkL tab (qfl n) [] Tryz.f193 [true,false,true,false,false] 0 n [.v (.t 0) T89,.v (.t 1) T89,.fn (.t 2) 194 [] [],.v (.t 11) T89,.v (.t 12) T3,.v (.t 13) T3] [(.exit 0,[.v (.t 0) T89,.v (.t 1) T89]),(.ret,[.v (.t 6) T3])] (by kernel_rfl)
def qfC(n:Nat):Ct Tryz.prog:=mkC tab (qfl n) [qfm n] Tryz.func193 [.d T89,.d T89,.fn 194 [] []] [T3] (by kernel_rfl)
def qzq(n:Nat):CL Tryz.prog:=⟨[qgw n,qpF n,qfC n],[],0,nof⟩
def qkM(n:Nat):Ct Tryz.prog:=mkC tab (qzq n) [] Tryz.func179 [.d T91,.d T91] [T3] (by kernel_rfl)
def qbR(n:Nat):CL Tryz.prog:=⟨[qkM n],[],0,nof⟩
def qdD(n:Nat):LK Tryz.prog false:=mkL tab (qbR n) [] Tryz.f195 [true,false,false,true,false,false,true,false,false] 1 n [.v (.t 1) T3,.v (.t 2) T3,.fn (.t 3) 179 [] [],.v (.t 8) T3,.v (.t 9) T3,.row (.t 0) true T91 91] [(.exit 2,[.v (.t 1) T3,.v (.t 2) T3,.fn (.t 3) 179 [] [],.v (.t 8) T3,.row (.t 0) true T91 91])] (by kernel_rfl)
def qdE(n:Nat):LK Tryz.prog false:=mkL tab (qbR n) [qdD n] Tryz.f195 [true,false,false] 0 n [.v (.t 1) T3,.v (.t 2) T3,.fn (.t 3) 179 [] [],.v (.t 8) T3,.row (.t 0) true T91 91] [(.exit 0,[.row (.t 0) true T91 91])] (by kernel_rfl)
def qbV(n:Nat):Cw Tryz.prog:=mkW tab (qbR n) [qdE n] Tryz.func195 [.v (.t 1) T3,.v (.t 2) T3,.fn (.t 3) 179 [] [],.row (.t 0) true T91 91] 4 [[.row (.t 0) true T91 91]] (by kernel_rfl)
def qwR(n:Nat):CL Tryz.prog:=⟨[qg4 n],[],0,nof⟩
def qn7(n:Nat):Ct Tryz.prog:=mkC tab (qwR n) [] Tryz.func136 [.d T163] [T4] (by kernel_rfl)
def qfN(n:Nat):CL Tryz.prog:=⟨[qn7 n],[],0,nof⟩
def qfO(n:Nat):LK Tryz.prog false:=mkL tab (qfN n) [] Tryz.f176 [true,false,true,false,false] 0 n [.v (.t 0) T32,.fn (.t 1) 136 [] [],.v (.t 7) T3,.v (.t 8) T3] [(.exit 0,[]),(.ret,[.v (.t 4) T3])] (by kernel_rfl)
def qf7(n:Nat):Ct Tryz.prog:=mkC tab (qfN n) [qfO n] Tryz.func176 [.d T32,.fn 136 [] []] [T3] (by kernel_rfl)
def qjR(n:Nat):CL Tryz.prog:=⟨[qn7 n,qf7 n],[],0,nof⟩
def qfn(n:Nat):Ct Tryz.prog:=mkC tab (qjR n) [] Tryz.func135 [.d T32,.fn 136 [] []] [T4] (by kernel_rfl)
def qyB(n:Nat):CL Tryz.prog:=⟨[qg4 n,qfn n],[],0,nof⟩
def qtL(n:Nat):Ct Tryz.prog:=mkC tab (qyB n) [] Tryz.func101 [.d T126] [T4] (by kernel_rfl)
def qwS(n:Nat):CL Tryz.prog:=⟨[qkM n],[],0,nof⟩
def qr0(n:Nat):Ct Tryz.prog:=mkC tab (qwS n) [] Tryz.func181 [.d T91,.d T91] [T4] (by kernel_rfl)
end
section
def qgk(n:Nat):CL Tryz.prog:=⟨[],[],0,fun _=>false⟩
def qjS(n:Nat):Nat→St→PT (DEx×St):=fun _ _=>.fail
theorem qqe(n:Nat):qbi (qgk n).c (qy Tryz.f192) 0=[]:=by kernel_rfl
theorem qqf:Tryz.f192.body=some (qy Tryz.f192):=by kernel_rfl
abbrev qgl:List It:=[.raw (.t 0),.v (.t 1) T3]
abbrev qf4:List (List It):=[[.row (.t 0) false T91 91]]
def qn(n:Nat)(x:qh qgl):Option (qbD qf4):=runW tab (qgk n) (qjS n) (qy Tryz.f192) qgl 2 27 [.tmp 4] qf4 x
def qqg(n:Nat):Cw Tryz.prog:=⟨192,2,qgl,1,qf4,qn n,fun _ _ h=>qob (B:=tab) (cs:=qgk n) (lo:=qjS n) (rs:=[.tmp 4]) Tryz.func192 (by kernel_rfl) qqf (by kernel_rfl) (by decide) (qlr (qqe n) all_nil) h⟩
def qg5(n:Nat):CL Tryz.prog:=⟨[],[qqg n],1,nof⟩
def qkN(n:Nat):LK Tryz.prog false:=mkL tab (qg5 n) [] Tryz.f178 [true,true,false,true,false,false] 0 n [.v (.t 0) T211,.v (.t 3) T3,.v (.t 9) T211,.v (.t 10) T3,.v (.t 11) T3] [(.exit 0,[.v (.t 0) T211,.v (.t 3) T3])] (by kernel_rfl)
def qkO(n:Nat):LK Tryz.prog false:=mkL tab (qg5 n) [] Tryz.f178 [true,true,true,true,false,true,false,false] 1 n [.v (.t 25) T211,.v (.t 26) T3,.v (.t 27) T3,.row (.t 6) false T91 91] [(.exit 2,[.row (.t 6) false T91 91])] (by kernel_rfl)
def qle(n:Nat):Cw Tryz.prog:=mkW tab (qg5 n) [qkN n,qkO n] Tryz.func178 [.v (.t 0) T211] 1 [[.row (.t 0) false T91 91]] (by kernel_rfl)
abbrev qr:List It:=[.v (.t 1) T3,.v (.t 2) T3,.v (.t 3) T3,.fn (.t 4) 179 [] [],.row (.t 0) true T91 91]
abbrev qo:List (List It):=[[.row (.t 0) true T91 91]]
abbrev qd:Type:={g:qh qr→Option (qbD qo) // qtI Tryz.prog 184 5 qr 0 qo g}
def qH(n:Nat)(g:qd):CL Tryz.prog:=⟨[qkM n],[qbU n,qbV n,⟨184,5,qr,0,qo,g.1,g.2⟩],0,fun _=>false⟩
def qef(n:Nat)(g:qd):Nat→St→PT (DEx×St):=fun _ _=>.fail
abbrev qV:List It:=[.v (.t 1) T3,.v (.t 2) T3,.v (.t 3) T3,.fn (.t 4) 179 [] [],.v (.t 10) T4,.v (.t 11) T4,.row (.t 0) true T91 91]
abbrev qbq:List (DEx×List It):=[(.ret,[.row (.t 0) true T91 91])]
def qeo(n:Nat)(g:qd)(rec:qh qV→Option (qbE qbq))(s:qh qV):Option (qbE qbq):=(qgi tab (qH n g) (qef n g) (subC [true,true,false,false] (qy Tryz.f184)) 1 (mkS qV 148 s)).run (Lp.leaf 148 qV qbq rec)
def qcs(n:Nat)(g:qd):Lp:=⟨148,qV,qbq,qb n (qeo n g)⟩
theorem qiC(n:Nat)(g:qd):qbi (qH n g).c (subC [true,true,false,false] (qy Tryz.f184)) 1=[]:=by kernel_rfl
theorem qhX(n:Nat)(g:qd)(st:St)(r:DEx×St)(h:((qcs n g).go st).Is r):DA Tryz.prog false (.loop (subC [true,true,false,false] (qy Tryz.f184))) st r:=Lp.ok (L:=qcs n g) (B:=tab) (cs:=qH n g) (lo:=qef n g) (id:=0) rfl (qlr (qiC n g) all_nil) (fun _ _=>rfl) h
def qep(n:Nat)(g:qd):Nat→St→PT (DEx×St):=fun k st=>match k with
 | 0=>(qcs n g).go st
 | _=>.fail
theorem qiI(n:Nat)(g:qd):qbi (qH n g).c (qy Tryz.f184) 0=[(0,.loop (subC [true,true,false,false] (qy Tryz.f184)))]:=by kernel_rfl
theorem qiJ:Tryz.f184.body=some (qy Tryz.f184):=by kernel_rfl
def qct(n:Nat)(g:qd)(x:qh qr):Option (qbD qo):=runW tab (qH n g) (qep n g) (qy Tryz.f184) qr 5 148 [] qo x
theorem qiD(n:Nat)(g:qd):qtI Tryz.prog 184 5 qr 0 qo (qct n g):=fun _ _ h=>qob (B:=tab) (cs:=qH n g) (lo:=qep n g) (rs:=[]) Tryz.func184 (by kernel_rfl) qiJ (by kernel_rfl) (by decide) (qlr (qiI n g) (all_cons (fun st r h=>qhX n g st r h) all_nil)) h
def qD(n:Nat):Nat→qd
 | 0=>⟨fun _=>none,fun _ _ h=>by cases h⟩
 | k+1=>⟨qct n (qD n k),qiD n (qD n k)⟩
def qeF(n:Nat)(x:qh qr):Option (qbD qo):=(qD n n).1 x
def qeG(n:Nat):Cw Tryz.prog:=⟨184,5,qr,0,qo,qeF n,(qD n n).2⟩
def qkx(n:Nat):CL Tryz.prog:=⟨[qmt n,qkM n],[qeG n],0,nof⟩
def qdm(n:Nat):Cw Tryz.prog:=mkW tab (qkx n) [] Tryz.func157 [.fn (.t 1) 179 [] [],.row (.t 0) true T91 91] 2 [[.row (.t 0) true T91 91]] (by kernel_rfl)
abbrev qt:List It:=[.v (.t 1) T3,.v (.t 2) T3,.v (.t 3) T3,.fn (.t 4) 158 [] [],.row (.t 0) true T91 91]
abbrev qp:List (List It):=[[.row (.t 0) true T91 91]]
abbrev qe:Type:={g:qh qt→Option (qbD qp) // qtI Tryz.prog 184 5 qt 0 qp g}
def qI(n:Nat)(g:qe):CL Tryz.prog:=⟨[qnJ n],[qbU n,qbV n,⟨184,5,qt,0,qp,g.1,g.2⟩],0,fun _=>false⟩
def qeg(n:Nat)(g:qe):Nat→St→PT (DEx×St):=fun _ _=>.fail
abbrev qW:List It:=[.v (.t 1) T3,.v (.t 2) T3,.v (.t 3) T3,.fn (.t 4) 158 [] [],.v (.t 10) T4,.v (.t 11) T4,.row (.t 0) true T91 91]
abbrev qbr:List (DEx×List It):=[(.ret,[.row (.t 0) true T91 91])]
def qeq(n:Nat)(g:qe)(rec:qh qW→Option (qbE qbr))(s:qh qW):Option (qbE qbr):=(qgi tab (qI n g) (qeg n g) (subC [true,true,false,false] (qy Tryz.f184)) 1 (mkS qW 148 s)).run (Lp.leaf 148 qW qbr rec)
def qcu(n:Nat)(g:qe):Lp:=⟨148,qW,qbr,qb n (qeq n g)⟩
theorem qiE(n:Nat)(g:qe):qbi (qI n g).c (subC [true,true,false,false] (qy Tryz.f184)) 1=[]:=by kernel_rfl
theorem qhY(n:Nat)(g:qe)(st:St)(r:DEx×St)(h:((qcu n g).go st).Is r):DA Tryz.prog false (.loop (subC [true,true,false,false] (qy Tryz.f184))) st r:=Lp.ok (L:=qcu n g) (B:=tab) (cs:=qI n g) (lo:=qeg n g) (id:=0) rfl (qlr (qiE n g) all_nil) (fun _ _=>rfl) h
def qer(n:Nat)(g:qe):Nat→St→PT (DEx×St):=fun k st=>match k with
 | 0=>(qcu n g).go st
 | _=>.fail
theorem qiK(n:Nat)(g:qe):qbi (qI n g).c (qy Tryz.f184) 0=[(0,.loop (subC [true,true,false,false] (qy Tryz.f184)))]:=by kernel_rfl
theorem qiL:Tryz.f184.body=some (qy Tryz.f184):=by kernel_rfl
def qcv(n:Nat)(g:qe)(x:qh qt):Option (qbD qp):=runW tab (qI n g) (qer n g) (qy Tryz.f184) qt 5 148 [] qp x
theorem qiF(n:Nat)(g:qe):qtI Tryz.prog 184 5 qt 0 qp (qcv n g):=fun _ _ h=>qob (B:=tab) (cs:=qI n g) (lo:=qer n g) (rs:=[]) Tryz.func184 (by kernel_rfl) qiL (by kernel_rfl) (by decide) (qlr (qiK n g) (all_cons (fun st r h=>qhY n g st r h) all_nil)) h
def qE(n:Nat):Nat→qe
 | 0=>⟨fun _=>none,fun _ _ h=>by cases h⟩
 | k+1=>⟨qcv n (qE n k),qiF n (qE n k)⟩
def qeH(n:Nat)(x:qh qt):Option (qbD qp):=(qE n n).1 x
def qiM(n:Nat):Cw Tryz.prog:=⟨184,5,qt,0,qp,qeH n,(qE n n).2⟩
def qky(n:Nat):CL Tryz.prog:=⟨[qmt n,qnJ n],[qeG n,qiM n],0,nof⟩
def qdn(n:Nat):Cw Tryz.prog:=mkW tab (qky n) [] Tryz.func157 [.fn (.t 1) 158 [] [],.row (.t 0) true T91 91] 2 [[.row (.t 0) true T91 91]] (by kernel_rfl)
def qcw(n:Nat):CL Tryz.prog:=⟨[qr0 n],[],0,nof⟩
def qes(n:Nat):LK Tryz.prog false:=mkL tab (qcw n) [] Tryz.f180 [true,true,false,true,false,false,true,false,false,true,false,true,false,true,false,false] 1 n [.fn (.t 1) 181 [] [],.v (.t 5) T3,.v (.t 7) T3,.row (.t 0) true T91 91,.sub (.t 6) 0] [(.exit 2,[.v (.t 5) T3,.row (.t 0) true T91 91])] (by kernel_rfl)
def qet(n:Nat):LK Tryz.prog false:=mkL tab (qcw n) [qes n] Tryz.f180 [true,true,false,true,false,false] 0 n [.fn (.t 1) 181 [] [],.v (.t 5) T3,.row (.t 0) true T91 91] [(.exit 0,[.row (.t 0) true T91 91]),(.ret,[.row (.t 0) true T91 91,.sub (.t 4) 0])] (by kernel_rfl)
def qeI(n:Nat):Cw Tryz.prog:=mkW tab (qcw n) [qet n] Tryz.func180 [.fn (.t 1) 181 [] [],.row (.t 0) true T91 91] 2 [[.row (.t 1) true T91 91,.sub (.t 0) 0]] (by kernel_rfl)
def qeJ(n:Nat):CL Tryz.prog:=⟨[],[qpI n],0,nof⟩
def qeK(n:Nat):LK Tryz.prog false:=mkL tab (qeJ n) [] Tryz.f58 [true,false,true,false,false] 0 n [.v (.t 7) T3,.v (.t 8) T3,.row (.t 0) true T91 91,.fnc (.t 1) 155 [.box true 35 1],.v (.c 1 0) T35] [(.exit 0,[.row (.t 0) true T91 91,.fnc (.t 1) 155 [.box true 35 1],.v (.c 1 0) T35]),(.ret,[.v (.t 4) T3,.row (.t 0) true T91 91,.fnc (.t 1) 155 [.box true 35 1],.v (.c 1 0) T35])] (by kernel_rfl)
def qX(n:Nat):Cw Tryz.prog:=mkW tab (qeJ n) [qeK n] Tryz.func58 [.row (.t 0) true T91 91,.fnc (.t 1) 155 [.box true 35 1],.v (.c 1 0) T35] 2 [[.v (.t 0) T3,.row (.t 1) true T91 91,.obj (.t 2) true 35 1,.v (.c 1 0) T35]] (by kernel_rfl)
def qfb(n:Nat):CL Tryz.prog:=⟨[],[qX n,qR n,qpI n],0,nof⟩
def qfc(n:Nat):LK Tryz.prog false:=mkL tab (qfb n) [] Tryz.f153 [true,true,true,false,true,false,false] 0 n [.v (.t 5) T3,.v (.t 6) T3,.row (.t 0) true T91 91,.fnc (.t 1) 155 [.box true 35 1],.v (.c 1 0) T35] [(.exit 0,[.v (.t 5) T3,.row (.t 0) true T91 91,.fnc (.t 1) 155 [.box true 35 1],.v (.c 1 0) T35])] (by kernel_rfl)
def qfo(n:Nat):Cw Tryz.prog:=mkW tab (qfb n) [qfc n] Tryz.func153 [.row (.t 0) true T91 91,.fnc (.t 1) 155 [.box true 35 1],.v (.c 1 0) T35] 2 [[.row (.t 1) true T91 91,.obj (.t 2) true 35 1,.v (.c 1 0) T35,.sub (.t 0) 0]] (by kernel_rfl)
abbrev qbe:List It:=[.v (.t 1) T3,.v (.t 2) T3,.v (.t 3) T3,.row (.t 0) true T3 3]
abbrev qbb:List (List It):=[[.row (.t 0) true T3 3]]
abbrev qx:Type:={g:qh qbe→Option (qbD qbb) // qtI Tryz.prog 122 4 qbe 0 qbb g}
def qcl(n:Nat)(g:qx):CL Tryz.prog:=⟨[qqP n],[qh7 n,⟨122,4,qbe,0,qbb,g.1,g.2⟩],0,fun _=>false⟩
def qjT(n:Nat)(g:qx):Nat→St→PT (DEx×St):=fun _ _=>.fail
abbrev qc4:List It:=[.v (.t 1) T3,.v (.t 2) T3,.v (.t 3) T3,.v (.t 8) T4,.v (.t 9) T4,.row (.t 0) true T3 3]
abbrev qeC:List (DEx×List It):=[(.ret,[.row (.t 0) true T3 3])]
def qkn(n:Nat)(g:qx)(rec:qh qc4→Option (qbE qeC))(s:qh qc4):Option (qbE qeC):=(qgi tab (qcl n g) (qjT n g) (subC [true,true,false,false] (qy Tryz.f122)) 1 (mkS qc4 134 s)).run (Lp.leaf 134 qc4 qeC rec)
def qgI(n:Nat)(g:qx):Lp:=⟨134,qc4,qeC,qb n (qkn n g)⟩
theorem qqh(n:Nat)(g:qx):qbi (qcl n g).c (subC [true,true,false,false] (qy Tryz.f122)) 1=[]:=by kernel_rfl
theorem qoB(n:Nat)(g:qx)(st:St)(r:DEx×St)(h:((qgI n g).go st).Is r):DA Tryz.prog false (.loop (subC [true,true,false,false] (qy Tryz.f122))) st r:=Lp.ok (L:=qgI n g) (B:=tab) (cs:=qcl n g) (lo:=qjT n g) (id:=0) rfl (qlr (qqh n g) all_nil) (fun _ _=>rfl) h
def qko(n:Nat)(g:qx):Nat→St→PT (DEx×St):=fun k st=>match k with
 | 0=>(qgI n g).go st
 | _=>.fail
theorem qqQ(n:Nat)(g:qx):qbi (qcl n g).c (qy Tryz.f122) 0=[(0,.loop (subC [true,true,false,false] (qy Tryz.f122)))]:=by kernel_rfl
theorem qqR:Tryz.f122.body=some (qy Tryz.f122):=by kernel_rfl
def qgJ(n:Nat)(g:qx)(x:qh qbe):Option (qbD qbb):=runW tab (qcl n g) (qko n g) (qy Tryz.f122) qbe 4 134 [] qbb x
theorem qqi(n:Nat)(g:qx):qtI Tryz.prog 122 4 qbe 0 qbb (qgJ n g):=fun _ _ h=>qob (B:=tab) (cs:=qcl n g) (lo:=qko n g) (rs:=[]) Tryz.func122 (by kernel_rfl) qqR (by kernel_rfl) (by decide) (qlr (qqQ n g) (all_cons (fun st r h=>qoB n g st r h) all_nil)) h
def qbO(n:Nat):Nat→qx
 | 0=>⟨fun _=>none,fun _ _ h=>by cases h⟩
 | k+1=>⟨qgJ n (qbO n k),qqi n (qbO n k)⟩
def qkP(n:Nat)(x:qh qbe):Option (qbD qbb):=(qbO n n).1 x
def qqS(n:Nat):Cw Tryz.prog:=⟨122,4,qbe,0,qbb,qkP n,(qbO n n).2⟩
def qv6(n:Nat):CL Tryz.prog:=⟨[qmt n],[qqS n],0,nof⟩
def qrm(n:Nat):Cw Tryz.prog:=mkW tab (qv6 n) [] Tryz.func79 [.row (.t 0) true T3 3] 1 [[.row (.t 0) true T3 3]] (by kernel_rfl)
def qxK(n:Nat):CL Tryz.prog:=⟨[],[qdm n,qdn n,qle n,qeI n],1,nof⟩
def qoC(n:Nat):Cw Tryz.prog:=mkW tab (qxK n) [] Tryz.func141 [.v (.t 0) T211] 1 [[.row (.t 0) false T91 91]] (by kernel_rfl)
def qsj(n:Nat):CL Tryz.prog:=⟨[qpE n],[],0,nof⟩
def qiN(n:Nat):Cw Tryz.prog:=mkW tab (qsj n) [] Tryz.func138 [.v (.t 0) T91,.obj (.t 1) true 126 2,.v (.c 0 0) T126] 2 [[.v (.t 0) T4,.obj (.t 1) true 126 2,.v (.c 0 0) T126]] (by kernel_rfl)
def qdU(n:Nat):CL Tryz.prog:=⟨[],[qiN n],0,nof⟩
def qdV(n:Nat):LK Tryz.prog false:=mkL tab (qdU n) [] Tryz.f58 [true,false,true,false,false] 0 n [.v (.t 0) T35,.v (.t 7) T3,.v (.t 8) T3,.fnc (.t 1) 138 [.box true 126 2],.v (.c 0 0) T126] [(.exit 0,[.fnc (.t 1) 138 [.box true 126 2],.v (.c 0 0) T126]),(.ret,[.v (.t 4) T3,.fnc (.t 1) 138 [.box true 126 2],.v (.c 0 0) T126])] (by kernel_rfl)
def qbf(n:Nat):Cw Tryz.prog:=mkW tab (qdU n) [qdV n] Tryz.func58 [.v (.t 0) T35,.fnc (.t 1) 138 [.box true 126 2],.v (.c 0 0) T126] 2 [[.v (.t 0) T3,.obj (.t 1) true 126 2,.v (.c 0 0) T126]] (by kernel_rfl)
def qg6(n:Nat):CL Tryz.prog:=⟨[],[qX n,qR n,qbf n,qiN n],0,nof⟩
def qdF(n:Nat):Cw Tryz.prog:=mkW tab (qg6 n) [] Tryz.func137 [.v (.t 0) T35,.fnc (.t 1) 138 [.box true 126 2],.v (.c 0 0) T126] 2 [[.v (.t 0) T4,.obj (.t 1) true 126 2,.v (.c 0 0) T126]] (by kernel_rfl)
def qt5(n:Nat):CL Tryz.prog:=⟨[qwP n],[qcD n,qdF n,qoC n],1,nof⟩
def qo0(n:Nat):Ct Tryz.prog:=mkC tab (qt5 n) [] Tryz.func102 [.d T126,.d T35] [T24] (by kernel_rfl)
def qBi(n:Nat):CL Tryz.prog:=⟨[qtL n,qo0 n],[],0,nof⟩
def qsM(n:Nat):Ct Tryz.prog:=mkC tab (qBi n) [] Tryz.func61 [.d T34,.d T35] [T24] (by kernel_rfl)
end
section
def qf5(n:Nat):CL Tryz.prog:=⟨[],[],0,fun _=>false⟩
def qjl(n:Nat):Nat→St→PT (DEx×St):=fun _ _=>.fail
theorem qpJ(n:Nat):qbi (qf5 n).c (qy Tryz.f154) 0=[]:=by kernel_rfl
theorem qpK:Tryz.f154.body=some (qy Tryz.f154):=by kernel_rfl
abbrev qf6:List It:=[.raw (.t 0)]
abbrev qfH:List (List It):=[[.row (.t 0) false T91 91]]
def qeh(n:Nat)(x:qh qf6):Option (qbD qfH):=runW tab (qf5 n) (qjl n) (qy Tryz.f154) qf6 1 8 [.tmp 2] qfH x
def qpL(n:Nat):Cw Tryz.prog:=⟨154,1,qf6,1,qfH,qeh n,fun _ _ h=>qob (B:=tab) (cs:=qf5 n) (lo:=qjl n) (rs:=[.tmp 2]) Tryz.func154 (by kernel_rfl) qpK (by kernel_rfl) (by decide) (qlr (qpJ n) all_nil) h⟩
def qhw(n:Nat):CL Tryz.prog:=⟨[],[],0,fun _=>false⟩
def qlf(n:Nat):Nat→St→PT (DEx×St):=fun _ _=>.fail
theorem qrH(n:Nat):qbi (qhw n).c (qy Tryz.f154) 0=[]:=by kernel_rfl
theorem qrI:Tryz.f154.body=some (qy Tryz.f154):=by kernel_rfl
abbrev qhx:List It:=[.v (.t 0) T35]
abbrev qeW:List (List It):=[[.row (.t 0) false T91 91]]
def qfw(n:Nat)(x:qh qhx):Option (qbD qeW):=runW tab (qhw n) (qlf n) (qy Tryz.f154) qhx 1 8 [.tmp 2] qeW x
def qrJ(n:Nat):Cw Tryz.prog:=⟨154,1,qhx,1,qeW,qfw n,fun _ _ h=>qob (B:=tab) (cs:=qhw n) (lo:=qlf n) (rs:=[.tmp 2]) Tryz.func154 (by kernel_rfl) qrI (by kernel_rfl) (by decide) (qlr (qrH n) all_nil) h⟩
end
theorem qrK(n:Nat)(c:Nat):qeh n (.slice none 0 c,())=some ([],()):=by kernel_rfl
theorem qrL(n:Nat)(a:Addr)(c:Nat):qeh n (.slice (some a) 0 c,())=some ([],()):=by kernel_rfl
def qlS(n:Nat):Cw Tryz.prog:=qDJ 154 T91 qeW (qeh n) (qfw n) ([],()) (fun v y m0 h=>(qpL n).okk (x:=(v,())) (y:=y) h m0 (qvA m0)) (fun l y m0 h=>(qrJ n).okk (x:=(l,())) (y:=y) h m0 (qvA m0)) (fun A c=>by cases A with | none=>exact qrK n c | some a=>exact qrL n a c)
def qrM(n:Nat):=(qlS n).M
set_option maxHeartbeats 4000000
def qgx(hut:Int)(lo:Int):Nat→List (Int×Int)
 | 0=>[]
 | n+1=>(hut,lo)::qgx hut (lo+1) n
def qof(s:Int×(Int×Int)):List (Int×Int):=qgx s.1 s.2.1 (s.2.2+1-s.2.1).toNat
def qY:List (Int×(Int×Int))→List (Int×Int)
 | []=>[]
 | s::l=>qof s++qY l
def qwT(l:List (Int×(Int×Int))):Bool:=Nat.ble l.length 1000000&&l.all fun s=>decide (-9223372036854775808≤s.2.1)&&decide (s.2.2<9223372036854775807)
def qzr(y:Int×Int):qT [T158]:=(y,())
theorem qA1(l:List (Int×Int)):((l.map qzr).map (tysA [T158])).length=l.length:=by rw[List.length_map,List.length_map]
def qsN(l:List (Int×(Int×Int))):Option (List (qT [T158])):=cond (qwT l) (some ((qY l).map qzr)) none
def qjU(l:List (Int×(Int×Int)))(k:Nat):Nat:=(qY (l.take k)).length
theorem qt6(h:Int):∀(n:Nat) (lo:Int),(qgx h lo n).length=n
 | 0,_=>rfl
 | n+1,lo=>by simp[qgx,qt6 h n]
theorem qzs(h:Int):∀(n:Nat) (lo:Int) (j:Nat),j<n→(qgx h lo n)[j]?=some (h,lo+j)
 | n+1,lo,0,_=>by simp[qgx]
 | n+1,lo,j+1,hj=>by
  simp only[qgx,List.getElem?_cons_succ]
  rw[qzs h n (lo+1) j (by omega)]
  congr 2
  omega
theorem qvB:∀(l m:List (Int×(Int×Int))),qY (l++m)=qY l++qY m
 | [],_=>rfl
 | s::l,m=>by simp[qY,qvB l m]
theorem qEw(l:List (Int×(Int×Int)))(k:Nat)(hk:k<l.length):qjU l (k+1)=qjU l k+(l[k].2.2+1-l[k].2.1).toNat:=by
 unfold qjU
 rw[List.take_succ_eq_append_getElem hk,qvB]
 simp[qY,qof,qt6]
theorem qFJ(l:List (Int×(Int×Int))):qjU l l.length=(qY l).length:=by unfold qjU;simp
theorem qHn(l:List (Int×(Int×Int)))(k:Nat)(hk:k<l.length)(j:Nat)(hj:j<(l[k].2.2+1-l[k].2.1).toNat):(qY l)[qjU l k+j]?=some (l[k].1,l[k].2.1+j):=by
 have h1:l=l.take k++l[k]::l.drop (k+1):=by simp
 have h2:qY l=qY (l.take k)++(qof l[k]++qY (l.drop (k+1))):=by
  conv=>lhs;rw[h1]
  rw[qvB];rfl
 rw[h2,List.getElem?_append_right (by unfold qjU;omega),show qjU l k+j-(qY (l.take k)).length=j by unfold qjU;omega,List.getElem?_append_left (by unfold qof;rw[qt6];exact hj)]
 exact qzs _ _ _ _ hj
theorem qIl{a b:Int}(h:a=b):[AV.int a]=[AV.int b]:=by rw[h]
theorem qHo(x:qT [T91])(l:List (qT [T158]))(h:qsN x.1.2.2.2.2=some l):qyU Tryz.prog false 183 [] (qh6 [T91] x) (l.map (tysA [T158])):=by
 obtain ⟨⟨ma,mb,mc,md,ss⟩,u⟩:=x
 change List (Int×(Int×Int)) at ss
 unfold qsN at h
 cases hb:qwT ss with
 | false=>simp only at h;rw[hb] at h;cases h
 | true =>
 simp only at h;rw[hb] at h
 injection h with h
 subst h
 unfold qwT at hb
 simp only[Bool.and_eq_true,Nat.ble_eq,List.all_eq_true,decide_eq_true_eq] at hb
 obtain ⟨hlen,hbd⟩:=hb
 refine ⟨enters_of Tryz.func183 (by kernel_rfl) rfl,fun lp T J Jx X hcJ hcx hone hy=>?_⟩
 have hyk:∀k (hk:k<ss.length) (j:Nat),j<(ss[k].2.2+1-ss[k].2.1).toNat→qyT Tryz.prog T lp [.agg [.int ss[k].1,.int (ss[k].2.1+j)]] (J (qjU ss k+j)) (J (qjU ss k+j+1)) Jx:=fun k hk j hj=>by
  have h1:=qHn ss k hk j hj
  have h2:=(List.getElem?_eq_some_iff.1 h1).1
  have h3:=hy (qjU ss k+j) (by rw[qA1];exact h2)
  rw[List.getElem_map,List.getElem_map,(List.getElem?_eq_some_iff.1 h1).2] at h3
  exact h3
 have hY:=Lib.hid hyk
 have hN:=Lib.hid (qEw ss)
 have hN0:qjU ss 0=0:=rfl
 have hNl:qjU ss ss.length=(((qY ss).map qzr).map (tysA [T158])).length:=by rw[qFJ,qA1]
 show MCT Tryz.prog T 183 [.val (.func (.yield lp) #[] #[]),.rp [.val (.int .i64 ma),.val (.int .i64 mb),.val (.int .i64 mc),.val (.int .i64 md),.sl 3 (ss.map fun s=>[.val (.int .i64 s.1),.val (.int .i64 s.2.1),.val (.int .i64 s.2.2)])]] [.nodef,.ghost X (J 0)] fun _ H'=>∃X',HE.ghost X' (J (((qY ss).map qzr).map (tysA [T158])).length)∈H'∨HE.ghost X' Jx∈H'
 rw[← hNl,← hN0]
 clear hy hyk hNl
 generalize hrr:(ss.map fun s=>[AV.val (.int .i64 s.1),AV.val (.int .i64 s.2.1),AV.val (.int .i64 s.2.2)])=rr
 have hrl:rr.length=ss.length:=by rw[← hrr];simp
 have hra:∀k (hk:k<ss.length),rr[k]?=some [.int ss[k].1,.int ss[k].2.1,.int ss[k].2.2]:=fun k hk=>by rw[← hrr,List.getElem?_map,List.getElem?_eq_getElem hk];rfl
 (refine MCT.of Tryz.func183 (by kernel_rfl) rfl (by simp only[Tryz.ntmps183,List.length_cons,List.length_nil,Nat.reduceAdd,Nat.reduceSub,List.replicate_succ,List.replicate_zero,List.cons_append,List.nil_append];rfl) fun w0 S hM hT=>?_;have hF:Wf Fence.wide:=.inl rfl)
 (repeat' (first | ((first | with_reducible refine AL.id_ ?_ | with_reducible refine AE.id_ ?_);first | refine AL.build0 hF rfl rfl rfl (fun b=>⟨_,(by simp only[AV.put];rfl),?_⟩) | refine W.s rfl rfl (by first | exact AY.bx rfl (by simp only[evO,AV.get];rfl) rfl | exact AY.mkFn rfl (by simp only[List.map_cons,List.map_nil,evO,AV.get];rfl) | exact AY.mkFn1 rfl (by simp only[evO,AV.get];rfl) (by simp only[List.map_cons,List.map_nil,evO,AV.get];rfl) | exact hEQ rfl rfl rfl | exact Step2.sound (by first | (((first | (apply Step2.a;constructor) | (apply Step2.b;constructor))<;>first | infer_instance | skip)<;>(first | infer_instance | (refine w64c ?_;omega) | (refine qu7 ?_;omega) | (refine qsA ?_;omega) | (refine qsB ?_;omega) | (refine qu4 ?_;omega) | ((repeat (first | exact .head _ | refine .tail _ ?_));done) | assumption | (simp only[List.drop_succ_cons,List.drop_zero,List.length_map,Nat.zero_add,Nat.mul_one];rfl) | rfl | omega | (simp;done))) | fail) rfl | exact AY.call rfl rfl _ rfl (by fail) | exact AY.slice1 rfl rfl rfl (by rfl) (by first | (simp;done) | fail) | exact AY.callF rfl _ _ rfl _ rfl (by fail) | exact AY.old1k 0 rfl rfl rfl (by first | assumption | rfl) | exact AY.old1k 1 rfl rfl rfl (by first | assumption | rfl) | exact AY.old1k 2 rfl rfl rfl (by first | assumption | rfl) | exact AY.oldNk 0 rfl rfl rfl (by first | omega | (simp;omega)) (by first | assumption | rfl) | exact AY.oldNk 1 rfl rfl rfl (by first | omega | (simp;omega)) (by first | assumption | rfl)) (by simp only[AV.put];rfl) ?_ | (refine AL.nilK (hK _ _ ?_);clear hK K) | (refine AE.nil (hK _ ?_);clear hK K) | refine W.k rfl rfl (by simp only[AV.put];rfl) ?_ | refine AL.unguardS rfl rfl ?_ | refine AL.al hF rfl rfl rfl (by first | (simp only[Value.cells,List.map_cons,List.map_nil];rfl) | rfl) (fun b=>⟨_,(by simp only[AV.put];rfl),?_⟩) | refine AL.st1 hF rfl rfl rfl rfl (by simp only[evO,AV.get];rfl) (by first | exact qmi | exact qmj | exact qmk | exact qml | exact qmm | exact qmn | exact qmo | exact qmp) (by rfl) rfl (by rfl) (by first | (simp;done) | (simp;omega) | omega) (by simp only[List.set];rfl) ?_ | refine AL.stW hF rfl rfl rfl rfl (by simp only[evO,AV.get];rfl) (by first | exact qmi | exact qmj | exact qmk | exact qml | exact qmm | exact qmn | exact qmo | exact qmp) (by rfl) (by rfl) (by rfl) (by first | rfl | simp) (by simp only[List.set];rfl) ?_) | (with_reducible refine Awp.id_ ?_;first | refine Awp.seq ?_ | refine Awp.regionK (by first | (simp only[AV.putO,AV.put];rfl) | rfl) (fun K hK=>?_) | refine Awp.drawE (by first | (simp only[AV.putO,AV.put];rfl) | rfl) mixed rfl (by kernel_rfl) (fun K hK=>?_) | refine Awp.block ?_ | refine Awp.skip ?_ | refine Awp.exit ?_ | refine Awp.ret ?_ | refine Awp.condT rfl ?_ | refine Awp.condF rfl ?_) | refine qqC ?_ | refine qqD ?_ | refine qqE ?_ | refine qlk ?_ | refine qll ?_ | refine qlm ?_ | refine qln rfl ?_ | ((first | ((first | with_reducible refine AL.id_ ?_ | with_reducible refine AE.id_ ?_);(fail_if_success refine W.on rfl ?_);refine W.p rfl rfl (by simp only[AV.put];rfl) (by simp only[AV.put];rfl) (fun hb=>?_) (fun hb=>?_)) | (with_reducible refine Awp.id_ ?_;refine Awp.cond _ rfl (fun hb=>?_) (fun hb=>?_)))<;>(try simp only[z1,z2,z3,z4,z5,z6,z7,z8,y5,y6,y7,y8,z9,x1,x2,x3,x4,x5,x6,x7,x8] at hb;try (exfalso;omega)))))
 refine Awp.loopM [4,5,10,11,12,13,14,15,16,17,18,19,20,21,22,23,24,25,26,27,28,29,30] [9] (fun n vs H=>∃(k:Nat) (X':Nat→Prop),n+k=ss.length∧vs=[.int k]∧H=[.nodef,.ghost X' (J (qjU ss k))]) ss.length ⟨0,X,rfl,rfl,rfl⟩ ?_
 rintro n ju vs H ⟨k,X',hk,rfl,rfl⟩
 (refine Awp.slots (by first | (simp only[putl,mask,AV.put];rfl) | rfl) ?_)
 by_cases hlt:k<ss.length
 ·have hrow:=hra k hlt
  have hYk:=Lib.hid (hY.out k hlt)
  have hNk:=hN.out k hlt
  obtain ⟨hb1,hb2⟩:=hbd _ (List.getElem_mem hlt)
  generalize ss[k].1=hu at *
  generalize ss[k].2.1=lo at *
  generalize ss[k].2.2=hi at *
  (repeat' (first | ((first | with_reducible refine AL.id_ ?_ | with_reducible refine AE.id_ ?_);first | refine AL.build0 hF rfl rfl rfl (fun b=>⟨_,(by simp only[AV.put];rfl),?_⟩) | refine W.s rfl rfl (by first | exact AY.bx rfl (by simp only[evO,AV.get];rfl) rfl | exact AY.mkFn rfl (by simp only[List.map_cons,List.map_nil,evO,AV.get];rfl) | exact AY.mkFn1 rfl (by simp only[evO,AV.get];rfl) (by simp only[List.map_cons,List.map_nil,evO,AV.get];rfl) | exact hEQ rfl rfl rfl | exact Step2.sound (by first | (((first | (apply Step2.a;constructor) | (apply Step2.b;constructor))<;>first | infer_instance | skip)<;>(first | infer_instance | (refine w64c ?_;omega) | (refine qu7 ?_;omega) | (refine qsA ?_;omega) | (refine qsB ?_;omega) | (refine qu4 ?_;omega) | ((repeat (first | exact .head _ | refine .tail _ ?_));done) | assumption | (simp only[List.drop_succ_cons,List.drop_zero,List.length_map,Nat.zero_add,Nat.mul_one];rfl) | rfl | omega | (simp;done))) | fail) rfl | exact AY.call rfl rfl _ rfl (by fail) | exact AY.slice1 rfl rfl rfl (by rfl) (by first | (simp;done) | fail) | exact AY.callF rfl _ _ rfl _ rfl (by fail) | exact AY.old1k 0 rfl rfl rfl (by first | assumption | rfl) | exact AY.old1k 1 rfl rfl rfl (by first | assumption | rfl) | exact AY.old1k 2 rfl rfl rfl (by first | assumption | rfl) | exact AY.oldNk 0 rfl rfl rfl (by first | omega | (simp;omega)) (by first | assumption | rfl) | exact AY.oldNk 1 rfl rfl rfl (by first | omega | (simp;omega)) (by first | assumption | rfl)) (by simp only[AV.put];rfl) ?_ | (refine AL.nilK (hK _ _ ?_);clear hK K) | (refine AE.nil (hK _ ?_);clear hK K) | refine W.k rfl rfl (by simp only[AV.put];rfl) ?_ | refine AL.unguardS rfl rfl ?_ | refine AL.al hF rfl rfl rfl (by first | (simp only[Value.cells,List.map_cons,List.map_nil];rfl) | rfl) (fun b=>⟨_,(by simp only[AV.put];rfl),?_⟩) | refine AL.st1 hF rfl rfl rfl rfl (by simp only[evO,AV.get];rfl) (by first | exact qmi | exact qmj | exact qmk | exact qml | exact qmm | exact qmn | exact qmo | exact qmp) (by rfl) rfl (by rfl) (by first | (simp;done) | (simp;omega) | omega) (by simp only[List.set];rfl) ?_ | refine AL.stW hF rfl rfl rfl rfl (by simp only[evO,AV.get];rfl) (by first | exact qmi | exact qmj | exact qmk | exact qml | exact qmm | exact qmn | exact qmo | exact qmp) (by rfl) (by rfl) (by rfl) (by first | rfl | simp) (by simp only[List.set];rfl) ?_) | (with_reducible refine Awp.id_ ?_;first | refine Awp.seq ?_ | refine Awp.regionK (by first | (simp only[AV.putO,AV.put];rfl) | rfl) (fun K hK=>?_) | refine Awp.drawE (by first | (simp only[AV.putO,AV.put];rfl) | rfl) mixed rfl (by kernel_rfl) (fun K hK=>?_) | refine Awp.block ?_ | refine Awp.skip ?_ | refine Awp.exit ?_ | refine Awp.ret ?_ | refine Awp.condT rfl ?_ | refine Awp.condF rfl ?_) | refine qqC ?_ | refine qqD ?_ | refine qqE ?_ | refine qlk ?_ | refine qll ?_ | refine qlm ?_ | refine qln rfl ?_ | ((first | ((first | with_reducible refine AL.id_ ?_ | with_reducible refine AE.id_ ?_);(fail_if_success refine W.on rfl ?_);refine W.p rfl rfl (by simp only[AV.put];rfl) (by simp only[AV.put];rfl) (fun hb=>?_) (fun hb=>?_)) | (with_reducible refine Awp.id_ ?_;refine Awp.cond _ rfl (fun hb=>?_) (fun hb=>?_)))<;>(try simp only[z1,z2,z3,z4,z5,z6,z7,z8,y5,y6,y7,y8,z9,x1,x2,x3,x4,x5,x6,x7,x8] at hb;try (exfalso;omega)))))
  refine Awp.loopM [16,17,18,19,20,21,22,23,24,25,26,27,28,29] [5] (fun n vs H=>∃(j:Nat) (X3:Nat→Prop),n+j=(hi+1-lo).toNat∧vs=[.int (lo+j)]∧H=[.blk b 95 [.int hu,.int lo,.int hi],.nodef,.ghost X3 (J (qjU ss k+j))]) (hi+1-lo).toNat ⟨0,X',by omega,by simp;rfl,rfl⟩ ?_
  rintro n1 ju1 vs1 H1 ⟨j,X3,hj,rfl,rfl⟩
  (refine Awp.slots (by first | (simp only[putl,mask,AV.put];rfl) | rfl) ?_)
  by_cases hlt2:j<(hi+1-lo).toNat
  ·have hle:lo+j≤hi:=by omega
   have hye:=hYk.out j hlt2
   (repeat' (first | ((first | with_reducible refine AL.id_ ?_ | with_reducible refine AE.id_ ?_);first | refine AL.build0 hF rfl rfl rfl (fun b=>⟨_,(by simp only[AV.put];rfl),?_⟩) | refine W.s rfl rfl (by first | exact AY.bx rfl (by simp only[evO,AV.get];rfl) rfl | exact AY.mkFn rfl (by simp only[List.map_cons,List.map_nil,evO,AV.get];rfl) | exact AY.mkFn1 rfl (by simp only[evO,AV.get];rfl) (by simp only[List.map_cons,List.map_nil,evO,AV.get];rfl) | exact AY.build rfl (by simp only[List.map_cons,List.map_nil,evO,AV.get];rfl) (by simp only[List.map_cons,List.map_nil];repeat (first | exact Places.nil | apply Places.cons)) (by first | (simp only[zip3,qdk,qeU,qbT,qA,qht,List.map_cons,List.map_nil,List.length_cons,List.length_nil,List.take_succ_cons,List.take_zero,List.drop_succ_cons,List.drop_zero,List.replicate_succ,List.replicate_zero,List.cons_append,List.nil_append,List.append_nil,List.drop_nil,List.take_nil,List.toList_toArray,Nat.sub_zero,Nat.reduceSub,Nat.reduceAdd,Nat.reduceMul,Nat.zero_mul,Nat.one_mul,Nat.mul_one,Nat.zero_add,Nat.le_refl,Nat.reduceLeDiff,and_self,true_and,and_true,if_true];rfl) | rfl) | exact AY.buildS rfl (by simp only[List.map_cons,List.map_nil,evO,AV.get];rfl) (by first | rfl | decide) (by omega) (by first | (simp only[zip3,qdk,qeU,qbT,qA,qht,List.map_cons,List.map_nil,List.length_cons,List.length_nil,List.take_succ_cons,List.take_zero,List.drop_succ_cons,List.drop_zero,List.replicate_succ,List.replicate_zero,List.cons_append,List.nil_append,List.append_nil,List.drop_nil,List.take_nil,List.toList_toArray,Nat.sub_zero,Nat.reduceSub,Nat.reduceAdd,Nat.reduceMul,Nat.zero_mul,Nat.one_mul,Nat.mul_one,Nat.zero_add,Nat.le_refl,Nat.reduceLeDiff,and_self,true_and,and_true,if_true];rfl) | rfl) (by first | (simp only[zip3,qdk,qeU,qbT,qA,qht,List.map_cons,List.map_nil,List.length_cons,List.length_nil,List.take_succ_cons,List.take_zero,List.drop_succ_cons,List.drop_zero,List.replicate_succ,List.replicate_zero,List.cons_append,List.nil_append,List.append_nil,List.drop_nil,List.take_nil,List.toList_toArray,Nat.sub_zero,Nat.reduceSub,Nat.reduceAdd,Nat.reduceMul,Nat.zero_mul,Nat.one_mul,Nat.mul_one,Nat.zero_add,Nat.le_refl,Nat.reduceLeDiff,and_self,true_and,and_true,if_true];rfl) | rfl) | exact hEQ rfl rfl rfl | exact Step2.sound (by first | (((first | (apply Step2.a;constructor) | (apply Step2.b;constructor))<;>first | infer_instance | skip)<;>(first | infer_instance | (refine w64c ?_;omega) | (refine qu7 ?_;omega) | (refine qsA ?_;omega) | (refine qsB ?_;omega) | (refine qu4 ?_;omega) | ((repeat (first | exact .head _ | refine .tail _ ?_));done) | assumption | (simp only[List.drop_succ_cons,List.drop_zero,List.length_map,Nat.zero_add,Nat.mul_one];rfl) | rfl | omega | (simp;done))) | fail) rfl | exact AY.call rfl rfl _ rfl (by fail) | exact AY.slice1 rfl rfl rfl (by rfl) (by first | (simp;done) | fail) | exact AY.callF rfl _ _ rfl _ rfl (by fail) | exact AY.old1k 0 rfl rfl rfl (by first | assumption | rfl) | exact AY.old1k 1 rfl rfl rfl (by first | assumption | rfl) | exact AY.old1k 2 rfl rfl rfl (by first | assumption | rfl) | exact AY.oldNk 0 rfl rfl rfl (by first | omega | (simp;omega)) (by first | assumption | rfl) | exact AY.oldNk 1 rfl rfl rfl (by first | omega | (simp;omega)) (by first | assumption | rfl)) (by simp only[AV.put];rfl) ?_ | (refine AL.nilK (hK _ _ ?_);clear hK K) | (refine AE.nil (hK _ ?_);clear hK K) | refine W.k rfl rfl (by simp only[AV.put];rfl) ?_ | refine AL.unguardS rfl rfl ?_ | refine AL.al hF rfl rfl rfl (by first | (simp only[Value.cells,List.map_cons,List.map_nil];rfl) | rfl) (fun b=>⟨_,(by simp only[AV.put];rfl),?_⟩) | refine AL.st1 hF rfl rfl rfl rfl (by simp only[evO,AV.get];rfl) (by first | exact qmi | exact qmj | exact qmk | exact qml | exact qmm | exact qmn | exact qmo | exact qmp) (by rfl) rfl (by rfl) (by first | (simp;done) | (simp;omega) | omega) (by simp only[List.set];rfl) ?_ | refine AL.stW hF rfl rfl rfl rfl (by simp only[evO,AV.get];rfl) (by first | exact qmi | exact qmj | exact qmk | exact qml | exact qmm | exact qmn | exact qmo | exact qmp) (by rfl) (by rfl) (by rfl) (by first | rfl | simp) (by simp only[List.set];rfl) ?_) | (with_reducible refine Awp.id_ ?_;first | refine Awp.seq ?_ | refine Awp.regionK (by first | (simp only[AV.putO,AV.put];rfl) | rfl) (fun K hK=>?_) | refine Awp.drawE (by first | (simp only[AV.putO,AV.put];rfl) | rfl) mixed rfl (by kernel_rfl) (fun K hK=>?_) | refine Awp.block ?_ | refine Awp.skip ?_ | refine Awp.exit ?_ | refine Awp.ret ?_ | refine Awp.condT rfl ?_ | refine Awp.condF rfl ?_) | refine qqC ?_ | refine qqD ?_ | refine qqE ?_ | refine qlk ?_ | refine qll ?_ | refine qlm ?_ | refine qln rfl ?_ | ((first | ((first | with_reducible refine AL.id_ ?_ | with_reducible refine AE.id_ ?_);(fail_if_success refine W.on rfl ?_);refine W.p rfl rfl (by simp only[AV.put];rfl) (by simp only[AV.put];rfl) (fun hb=>?_) (fun hb=>?_)) | (with_reducible refine Awp.id_ ?_;refine Awp.cond _ rfl (fun hb=>?_) (fun hb=>?_)))<;>(try simp only[z1,z2,z3,z4,z5,z6,z7,z8,y5,y6,y7,y8,z9,x1,x2,x3,x4,x5,x6,x7,x8] at hb;try (exfalso;omega)))))
   have hgho:∀i e,([HE.blk b 95 [.int hu,.int lo,.int hi],.nodef,.ghost X3 (J (qjU ss k+j))])[i]?=some e→e.isGhost→i=2:=fun i e h1 h2=>by
    match i,h1 with
    | 0,h1=>cases h1;exact h2.elim
    | 1,h1=>cases h1;exact h2.elim
    | 2,_=>rfl
   refine AL.yield 2 rfl rfl rfl rfl _ rfl rfl hgho (by simp) (fun b hA=>hT b fun h=>(hA.1 h).1) hye (hcJ _) hcx (fun X4=>?_) (fun X4=>?_)
   ·refine AL.norm (by simp only[AV.put];rfl) rfl ?_
    (repeat' (first | ((first | with_reducible refine AL.id_ ?_ | with_reducible refine AE.id_ ?_);first | refine AL.build0 hF rfl rfl rfl (fun b=>⟨_,(by simp only[AV.put];rfl),?_⟩) | refine W.s rfl rfl (by first | exact AY.bx rfl (by simp only[evO,AV.get];rfl) rfl | exact AY.mkFn rfl (by simp only[List.map_cons,List.map_nil,evO,AV.get];rfl) | exact AY.mkFn1 rfl (by simp only[evO,AV.get];rfl) (by simp only[List.map_cons,List.map_nil,evO,AV.get];rfl) | exact AY.build rfl (by simp only[List.map_cons,List.map_nil,evO,AV.get];rfl) (by simp only[List.map_cons,List.map_nil];repeat (first | exact Places.nil | apply Places.cons)) (by first | (simp only[zip3,qdk,qeU,qbT,qA,qht,List.map_cons,List.map_nil,List.length_cons,List.length_nil,List.take_succ_cons,List.take_zero,List.drop_succ_cons,List.drop_zero,List.replicate_succ,List.replicate_zero,List.cons_append,List.nil_append,List.append_nil,List.drop_nil,List.take_nil,List.toList_toArray,Nat.sub_zero,Nat.reduceSub,Nat.reduceAdd,Nat.reduceMul,Nat.zero_mul,Nat.one_mul,Nat.mul_one,Nat.zero_add,Nat.le_refl,Nat.reduceLeDiff,and_self,true_and,and_true,if_true];rfl) | rfl) | exact AY.buildS rfl (by simp only[List.map_cons,List.map_nil,evO,AV.get];rfl) (by first | rfl | decide) (by omega) (by first | (simp only[zip3,qdk,qeU,qbT,qA,qht,List.map_cons,List.map_nil,List.length_cons,List.length_nil,List.take_succ_cons,List.take_zero,List.drop_succ_cons,List.drop_zero,List.replicate_succ,List.replicate_zero,List.cons_append,List.nil_append,List.append_nil,List.drop_nil,List.take_nil,List.toList_toArray,Nat.sub_zero,Nat.reduceSub,Nat.reduceAdd,Nat.reduceMul,Nat.zero_mul,Nat.one_mul,Nat.mul_one,Nat.zero_add,Nat.le_refl,Nat.reduceLeDiff,and_self,true_and,and_true,if_true];rfl) | rfl) (by first | (simp only[zip3,qdk,qeU,qbT,qA,qht,List.map_cons,List.map_nil,List.length_cons,List.length_nil,List.take_succ_cons,List.take_zero,List.drop_succ_cons,List.drop_zero,List.replicate_succ,List.replicate_zero,List.cons_append,List.nil_append,List.append_nil,List.drop_nil,List.take_nil,List.toList_toArray,Nat.sub_zero,Nat.reduceSub,Nat.reduceAdd,Nat.reduceMul,Nat.zero_mul,Nat.one_mul,Nat.mul_one,Nat.zero_add,Nat.le_refl,Nat.reduceLeDiff,and_self,true_and,and_true,if_true];rfl) | rfl) | exact hEQ rfl rfl rfl | exact Step2.sound (by first | (((first | (apply Step2.a;constructor) | (apply Step2.b;constructor))<;>first | infer_instance | skip)<;>(first | infer_instance | (refine w64c ?_;omega) | (refine qu7 ?_;omega) | (refine qsA ?_;omega) | (refine qsB ?_;omega) | (refine qu4 ?_;omega) | ((repeat (first | exact .head _ | refine .tail _ ?_));done) | assumption | (simp only[List.drop_succ_cons,List.drop_zero,List.length_map,Nat.zero_add,Nat.mul_one];rfl) | rfl | omega | (simp;done))) | fail) rfl | exact AY.call rfl rfl _ rfl (by fail) | exact AY.slice1 rfl rfl rfl (by rfl) (by first | (simp;done) | fail) | exact AY.callF rfl _ _ rfl _ rfl (by fail) | exact AY.old1k 0 rfl rfl rfl (by first | assumption | rfl) | exact AY.old1k 1 rfl rfl rfl (by first | assumption | rfl) | exact AY.old1k 2 rfl rfl rfl (by first | assumption | rfl) | exact AY.oldNk 0 rfl rfl rfl (by first | omega | (simp;omega)) (by first | assumption | rfl) | exact AY.oldNk 1 rfl rfl rfl (by first | omega | (simp;omega)) (by first | assumption | rfl)) (by simp only[AV.put];rfl) ?_ | (refine AL.nilK (hK _ _ ?_);clear hK K) | (refine AE.nil (hK _ ?_);clear hK K) | refine W.k rfl rfl (by simp only[AV.put];rfl) ?_ | refine AL.unguardS rfl rfl ?_ | refine AL.al hF rfl rfl rfl (by first | (simp only[Value.cells,List.map_cons,List.map_nil];rfl) | rfl) (fun b=>⟨_,(by simp only[AV.put];rfl),?_⟩) | refine AL.st1 hF rfl rfl rfl rfl (by simp only[evO,AV.get];rfl) (by first | exact qmi | exact qmj | exact qmk | exact qml | exact qmm | exact qmn | exact qmo | exact qmp) (by rfl) rfl (by rfl) (by first | (simp;done) | (simp;omega) | omega) (by simp only[List.set];rfl) ?_ | refine AL.stW hF rfl rfl rfl rfl (by simp only[evO,AV.get];rfl) (by first | exact qmi | exact qmj | exact qmk | exact qml | exact qmm | exact qmn | exact qmo | exact qmp) (by rfl) (by rfl) (by rfl) (by first | rfl | simp) (by simp only[List.set];rfl) ?_) | (with_reducible refine Awp.id_ ?_;first | refine Awp.seq ?_ | refine Awp.regionK (by first | (simp only[AV.putO,AV.put];rfl) | rfl) (fun K hK=>?_) | refine Awp.drawE (by first | (simp only[AV.putO,AV.put];rfl) | rfl) mixed rfl (by kernel_rfl) (fun K hK=>?_) | refine Awp.block ?_ | refine Awp.skip ?_ | refine Awp.exit ?_ | refine Awp.ret ?_ | refine Awp.condT rfl ?_ | refine Awp.condF rfl ?_) | refine qqC ?_ | refine qqD ?_ | refine qqE ?_ | refine qlk ?_ | refine qll ?_ | refine qlm ?_ | refine qln rfl ?_ | ((first | ((first | with_reducible refine AL.id_ ?_ | with_reducible refine AE.id_ ?_);(fail_if_success refine W.on rfl ?_);refine W.p rfl rfl (by simp only[AV.put];rfl) (by simp only[AV.put];rfl) (fun hb=>?_) (fun hb=>?_)) | (with_reducible refine Awp.id_ ?_;refine Awp.cond _ rfl (fun hb=>?_) (fun hb=>?_)))<;>(try simp only[z1,z2,z3,z4,z5,z6,z7,z8,y5,y6,y7,y8,z9,x1,x2,x3,x4,x5,x6,x7,x8] at hb;try (exfalso;omega)))))
    (refine qIr (n1-1) (by first | (simp only[AV.putO,AV.put];rfl) | rfl) (by omega) ?_ (by simp only[List.map,AV.get,mask,putl,AV.put]))
    exact ⟨j+1,X4,by omega,qIl (by omega),rfl⟩
   ·refine AL.norm (by simp only[AV.put];rfl) rfl ?_
    (repeat' (first | ((first | with_reducible refine AL.id_ ?_ | with_reducible refine AE.id_ ?_);first | refine AL.build0 hF rfl rfl rfl (fun b=>⟨_,(by simp only[AV.put];rfl),?_⟩) | refine W.s rfl rfl (by first | exact AY.bx rfl (by simp only[evO,AV.get];rfl) rfl | exact AY.mkFn rfl (by simp only[List.map_cons,List.map_nil,evO,AV.get];rfl) | exact AY.mkFn1 rfl (by simp only[evO,AV.get];rfl) (by simp only[List.map_cons,List.map_nil,evO,AV.get];rfl) | exact AY.build rfl (by simp only[List.map_cons,List.map_nil,evO,AV.get];rfl) (by simp only[List.map_cons,List.map_nil];repeat (first | exact Places.nil | apply Places.cons)) (by first | (simp only[zip3,qdk,qeU,qbT,qA,qht,List.map_cons,List.map_nil,List.length_cons,List.length_nil,List.take_succ_cons,List.take_zero,List.drop_succ_cons,List.drop_zero,List.replicate_succ,List.replicate_zero,List.cons_append,List.nil_append,List.append_nil,List.drop_nil,List.take_nil,List.toList_toArray,Nat.sub_zero,Nat.reduceSub,Nat.reduceAdd,Nat.reduceMul,Nat.zero_mul,Nat.one_mul,Nat.mul_one,Nat.zero_add,Nat.le_refl,Nat.reduceLeDiff,and_self,true_and,and_true,if_true];rfl) | rfl) | exact AY.buildS rfl (by simp only[List.map_cons,List.map_nil,evO,AV.get];rfl) (by first | rfl | decide) (by omega) (by first | (simp only[zip3,qdk,qeU,qbT,qA,qht,List.map_cons,List.map_nil,List.length_cons,List.length_nil,List.take_succ_cons,List.take_zero,List.drop_succ_cons,List.drop_zero,List.replicate_succ,List.replicate_zero,List.cons_append,List.nil_append,List.append_nil,List.drop_nil,List.take_nil,List.toList_toArray,Nat.sub_zero,Nat.reduceSub,Nat.reduceAdd,Nat.reduceMul,Nat.zero_mul,Nat.one_mul,Nat.mul_one,Nat.zero_add,Nat.le_refl,Nat.reduceLeDiff,and_self,true_and,and_true,if_true];rfl) | rfl) (by first | (simp only[zip3,qdk,qeU,qbT,qA,qht,List.map_cons,List.map_nil,List.length_cons,List.length_nil,List.take_succ_cons,List.take_zero,List.drop_succ_cons,List.drop_zero,List.replicate_succ,List.replicate_zero,List.cons_append,List.nil_append,List.append_nil,List.drop_nil,List.take_nil,List.toList_toArray,Nat.sub_zero,Nat.reduceSub,Nat.reduceAdd,Nat.reduceMul,Nat.zero_mul,Nat.one_mul,Nat.mul_one,Nat.zero_add,Nat.le_refl,Nat.reduceLeDiff,and_self,true_and,and_true,if_true];rfl) | rfl) | exact hEQ rfl rfl rfl | exact Step2.sound (by first | (((first | (apply Step2.a;constructor) | (apply Step2.b;constructor))<;>first | infer_instance | skip)<;>(first | infer_instance | (refine w64c ?_;omega) | (refine qu7 ?_;omega) | (refine qsA ?_;omega) | (refine qsB ?_;omega) | (refine qu4 ?_;omega) | ((repeat (first | exact .head _ | refine .tail _ ?_));done) | assumption | (simp only[List.drop_succ_cons,List.drop_zero,List.length_map,Nat.zero_add,Nat.mul_one];rfl) | rfl | omega | (simp;done))) | fail) rfl | exact AY.call rfl rfl _ rfl (by fail) | exact AY.slice1 rfl rfl rfl (by rfl) (by first | (simp;done) | fail) | exact AY.callF rfl _ _ rfl _ rfl (by fail) | exact AY.old1k 0 rfl rfl rfl (by first | assumption | rfl) | exact AY.old1k 1 rfl rfl rfl (by first | assumption | rfl) | exact AY.old1k 2 rfl rfl rfl (by first | assumption | rfl) | exact AY.oldNk 0 rfl rfl rfl (by first | omega | (simp;omega)) (by first | assumption | rfl) | exact AY.oldNk 1 rfl rfl rfl (by first | omega | (simp;omega)) (by first | assumption | rfl)) (by simp only[AV.put];rfl) ?_ | (refine AL.nilK (hK _ _ ?_);clear hK K) | (refine AE.nil (hK _ ?_);clear hK K) | refine W.k rfl rfl (by simp only[AV.put];rfl) ?_ | refine AL.unguardS rfl rfl ?_ | refine AL.al hF rfl rfl rfl (by first | (simp only[Value.cells,List.map_cons,List.map_nil];rfl) | rfl) (fun b=>⟨_,(by simp only[AV.put];rfl),?_⟩) | refine AL.st1 hF rfl rfl rfl rfl (by simp only[evO,AV.get];rfl) (by first | exact qmi | exact qmj | exact qmk | exact qml | exact qmm | exact qmn | exact qmo | exact qmp) (by rfl) rfl (by rfl) (by first | (simp;done) | (simp;omega) | omega) (by simp only[List.set];rfl) ?_ | refine AL.stW hF rfl rfl rfl rfl (by simp only[evO,AV.get];rfl) (by first | exact qmi | exact qmj | exact qmk | exact qml | exact qmm | exact qmn | exact qmo | exact qmp) (by rfl) (by rfl) (by rfl) (by first | rfl | simp) (by simp only[List.set];rfl) ?_) | (with_reducible refine Awp.id_ ?_;first | refine Awp.seq ?_ | refine Awp.regionK (by first | (simp only[AV.putO,AV.put];rfl) | rfl) (fun K hK=>?_) | refine Awp.drawE (by first | (simp only[AV.putO,AV.put];rfl) | rfl) mixed rfl (by kernel_rfl) (fun K hK=>?_) | refine Awp.block ?_ | refine Awp.skip ?_ | refine Awp.exit ?_ | refine Awp.ret ?_ | refine Awp.condT rfl ?_ | refine Awp.condF rfl ?_) | refine qqC ?_ | refine qqD ?_ | refine qqE ?_ | refine qlk ?_ | refine qll ?_ | refine qlm ?_ | refine qln rfl ?_ | ((first | ((first | with_reducible refine AL.id_ ?_ | with_reducible refine AE.id_ ?_);(fail_if_success refine W.on rfl ?_);refine W.p rfl rfl (by simp only[AV.put];rfl) (by simp only[AV.put];rfl) (fun hb=>?_) (fun hb=>?_)) | (with_reducible refine Awp.id_ ?_;refine Awp.cond _ rfl (fun hb=>?_) (fun hb=>?_)))<;>(try simp only[z1,z2,z3,z4,z5,z6,z7,z8,y5,y6,y7,y8,z9,x1,x2,x3,x4,x5,x6,x7,x8] at hb;try (exfalso;omega)))))
    exact qEY rfl ⟨X4,.inr (List.mem_of_getElem? (i:=2) rfl)⟩
  ·have hle:¬(lo+j≤hi):=by omega
   (repeat' (first | ((first | with_reducible refine AL.id_ ?_ | with_reducible refine AE.id_ ?_);first | refine AL.build0 hF rfl rfl rfl (fun b=>⟨_,(by simp only[AV.put];rfl),?_⟩) | refine W.s rfl rfl (by first | exact AY.bx rfl (by simp only[evO,AV.get];rfl) rfl | exact AY.mkFn rfl (by simp only[List.map_cons,List.map_nil,evO,AV.get];rfl) | exact AY.mkFn1 rfl (by simp only[evO,AV.get];rfl) (by simp only[List.map_cons,List.map_nil,evO,AV.get];rfl) | exact hEQ rfl rfl rfl | exact Step2.sound (by first | (((first | (apply Step2.a;constructor) | (apply Step2.b;constructor))<;>first | infer_instance | skip)<;>(first | infer_instance | (refine w64c ?_;omega) | (refine qu7 ?_;omega) | (refine qsA ?_;omega) | (refine qsB ?_;omega) | (refine qu4 ?_;omega) | ((repeat (first | exact .head _ | refine .tail _ ?_));done) | assumption | (simp only[List.drop_succ_cons,List.drop_zero,List.length_map,Nat.zero_add,Nat.mul_one];rfl) | rfl | omega | (simp;done))) | fail) rfl | exact AY.call rfl rfl _ rfl (by fail) | exact AY.slice1 rfl rfl rfl (by rfl) (by first | (simp;done) | fail) | exact AY.callF rfl _ _ rfl _ rfl (by fail) | exact AY.old1k 0 rfl rfl rfl (by first | assumption | rfl) | exact AY.old1k 1 rfl rfl rfl (by first | assumption | rfl) | exact AY.old1k 2 rfl rfl rfl (by first | assumption | rfl) | exact AY.oldNk 0 rfl rfl rfl (by first | omega | (simp;omega)) (by first | assumption | rfl) | exact AY.oldNk 1 rfl rfl rfl (by first | omega | (simp;omega)) (by first | assumption | rfl)) (by simp only[AV.put];rfl) ?_ | (refine AL.nilK (hK _ _ ?_);clear hK K) | (refine AE.nil (hK _ ?_);clear hK K) | refine W.k rfl rfl (by simp only[AV.put];rfl) ?_ | refine AL.unguardS rfl rfl ?_ | refine AL.al hF rfl rfl rfl (by first | (simp only[Value.cells,List.map_cons,List.map_nil];rfl) | rfl) (fun b=>⟨_,(by simp only[AV.put];rfl),?_⟩) | refine AL.st1 hF rfl rfl rfl rfl (by simp only[evO,AV.get];rfl) (by first | exact qmi | exact qmj | exact qmk | exact qml | exact qmm | exact qmn | exact qmo | exact qmp) (by rfl) rfl (by rfl) (by first | (simp;done) | (simp;omega) | omega) (by simp only[List.set];rfl) ?_ | refine AL.stW hF rfl rfl rfl rfl (by simp only[evO,AV.get];rfl) (by first | exact qmi | exact qmj | exact qmk | exact qml | exact qmm | exact qmn | exact qmo | exact qmp) (by rfl) (by rfl) (by rfl) (by first | rfl | simp) (by simp only[List.set];rfl) ?_) | (with_reducible refine Awp.id_ ?_;first | refine Awp.seq ?_ | refine Awp.regionK (by first | (simp only[AV.putO,AV.put];rfl) | rfl) (fun K hK=>?_) | refine Awp.drawE (by first | (simp only[AV.putO,AV.put];rfl) | rfl) mixed rfl (by kernel_rfl) (fun K hK=>?_) | refine Awp.block ?_ | refine Awp.skip ?_ | refine Awp.exit ?_ | refine Awp.ret ?_ | refine Awp.condT rfl ?_ | refine Awp.condF rfl ?_) | refine qqC ?_ | refine qqD ?_ | refine qqE ?_ | refine qlk ?_ | refine qll ?_ | refine qlm ?_ | refine qln rfl ?_ | ((first | ((first | with_reducible refine AL.id_ ?_ | with_reducible refine AE.id_ ?_);(fail_if_success refine W.on rfl ?_);refine W.p rfl rfl (by simp only[AV.put];rfl) (by simp only[AV.put];rfl) (fun hb=>?_) (fun hb=>?_)) | (with_reducible refine Awp.id_ ?_;refine Awp.cond _ rfl (fun hb=>?_) (fun hb=>?_)))<;>(try simp only[z1,z2,z3,z4,z5,z6,z7,z8,y5,y6,y7,y8,z9,x1,x2,x3,x4,x5,x6,x7,x8] at hb;try (exfalso;omega)))))
   (refine qGz (n-1) (List.sublist_cons_self _ _) (by first | (simp only[AV.putO,AV.put];rfl) | rfl) (by omega) ?_ (by simp only[List.map,AV.get,mask,putl,AV.put]))
   exact ⟨k+1,X3,by omega,qIl (by omega),by rw[hNk,show (hi+1-lo).toNat=j by omega]⟩
 ·(repeat' (first | ((first | with_reducible refine AL.id_ ?_ | with_reducible refine AE.id_ ?_);first | refine AL.build0 hF rfl rfl rfl (fun b=>⟨_,(by simp only[AV.put];rfl),?_⟩) | refine W.s rfl rfl (by first | exact AY.bx rfl (by simp only[evO,AV.get];rfl) rfl | exact AY.mkFn rfl (by simp only[List.map_cons,List.map_nil,evO,AV.get];rfl) | exact AY.mkFn1 rfl (by simp only[evO,AV.get];rfl) (by simp only[List.map_cons,List.map_nil,evO,AV.get];rfl) | exact hEQ rfl rfl rfl | exact Step2.sound (by first | (((first | (apply Step2.a;constructor) | (apply Step2.b;constructor))<;>first | infer_instance | skip)<;>(first | infer_instance | (refine w64c ?_;omega) | (refine qu7 ?_;omega) | (refine qsA ?_;omega) | (refine qsB ?_;omega) | (refine qu4 ?_;omega) | ((repeat (first | exact .head _ | refine .tail _ ?_));done) | assumption | (simp only[List.drop_succ_cons,List.drop_zero,List.length_map,Nat.zero_add,Nat.mul_one];rfl) | rfl | omega | (simp;done))) | fail) rfl | exact AY.call rfl rfl _ rfl (by fail) | exact AY.slice1 rfl rfl rfl (by rfl) (by first | (simp;done) | fail) | exact AY.callF rfl _ _ rfl _ rfl (by fail) | exact AY.old1k 0 rfl rfl rfl (by first | assumption | rfl) | exact AY.old1k 1 rfl rfl rfl (by first | assumption | rfl) | exact AY.old1k 2 rfl rfl rfl (by first | assumption | rfl) | exact AY.oldNk 0 rfl rfl rfl (by first | omega | (simp;omega)) (by first | assumption | rfl) | exact AY.oldNk 1 rfl rfl rfl (by first | omega | (simp;omega)) (by first | assumption | rfl)) (by simp only[AV.put];rfl) ?_ | (refine AL.nilK (hK _ _ ?_);clear hK K) | (refine AE.nil (hK _ ?_);clear hK K) | refine W.k rfl rfl (by simp only[AV.put];rfl) ?_ | refine AL.unguardS rfl rfl ?_ | refine AL.al hF rfl rfl rfl (by first | (simp only[Value.cells,List.map_cons,List.map_nil];rfl) | rfl) (fun b=>⟨_,(by simp only[AV.put];rfl),?_⟩) | refine AL.st1 hF rfl rfl rfl rfl (by simp only[evO,AV.get];rfl) (by first | exact qmi | exact qmj | exact qmk | exact qml | exact qmm | exact qmn | exact qmo | exact qmp) (by rfl) rfl (by rfl) (by first | (simp;done) | (simp;omega) | omega) (by simp only[List.set];rfl) ?_ | refine AL.stW hF rfl rfl rfl rfl (by simp only[evO,AV.get];rfl) (by first | exact qmi | exact qmj | exact qmk | exact qml | exact qmm | exact qmn | exact qmo | exact qmp) (by rfl) (by rfl) (by rfl) (by first | rfl | simp) (by simp only[List.set];rfl) ?_) | (with_reducible refine Awp.id_ ?_;first | refine Awp.seq ?_ | refine Awp.regionK (by first | (simp only[AV.putO,AV.put];rfl) | rfl) (fun K hK=>?_) | refine Awp.drawE (by first | (simp only[AV.putO,AV.put];rfl) | rfl) mixed rfl (by kernel_rfl) (fun K hK=>?_) | refine Awp.block ?_ | refine Awp.skip ?_ | refine Awp.exit ?_ | refine Awp.ret ?_ | refine Awp.condT rfl ?_ | refine Awp.condF rfl ?_) | refine qqC ?_ | refine qqD ?_ | refine qqE ?_ | refine qlk ?_ | refine qll ?_ | refine qlm ?_ | refine qln rfl ?_ | ((first | ((first | with_reducible refine AL.id_ ?_ | with_reducible refine AE.id_ ?_);(fail_if_success refine W.on rfl ?_);refine W.p rfl rfl (by simp only[AV.put];rfl) (by simp only[AV.put];rfl) (fun hb=>?_) (fun hb=>?_)) | (with_reducible refine Awp.id_ ?_;refine Awp.cond _ rfl (fun hb=>?_) (fun hb=>?_)))<;>(try simp only[z1,z2,z3,z4,z5,z6,z7,z8,y5,y6,y7,y8,z9,x1,x2,x3,x4,x5,x6,x7,x8] at hb;try (exfalso;omega)))))
  exact qGB rfl ⟨X',.inl (by rw[show ss.length=k by omega];exact List.mem_of_getElem? (i:=1) rfl)⟩
def qA2:Itr Tryz.prog:=⟨183,[T91],[T158],fun x=>qsN x.1.2.2.2.2,fun x l h=>qHo x l h⟩
section
def qrN(n:Nat):CL Tryz.prog:=⟨[],[],0,fun _=>false⟩
def qv0(n:Nat):Nat→St→PT (DEx×St):=fun _ _=>.fail
theorem qCm(n:Nat):qbi (qrN n).c (qy Tryz.f152) 0=[]:=by kernel_rfl
theorem qCn:Tryz.f152.body=some (qy Tryz.f152):=by kernel_rfl
abbrev qsO:List Ar:=[.d T91]
abbrev qpM:List Ty:=[T91]
def qwU(n:Nat)(x:qgV qsO):Option (qT qpM):=(qgi tab (qrN n) (qv0 n) (qy Tryz.f152) 0 (qlQ qsO 4 x)).run (qIk 2 183 qpM)
def qwV(n:Nat):Ct Tryz.prog:=⟨152,qsO,.fb 183 qpM,qwU n,fun _ _ h=>qJo (B:=tab) (cs:=qrN n) (lo:=qv0 n) (i:=2) (g:=183) (caps:=qpM) Tryz.func152 (by kernel_rfl) qCn (by kernel_rfl) (qlr (qCm n) all_nil) h⟩
def quE(n:Nat):CL Tryz.prog:=⟨[],[],0,nof⟩
def qpN(n:Nat):Cw Tryz.prog:=mkW tab (quE n) [] Tryz.func182 [.v (.t 1) T158,.obj (.t 0) true 129 5,.v (.c 0 0) T126,.row (.c 0 2) true T91 91,.row (.c 0 3) true T91 91,.mpi (.c 0 4) true T158 T3] 2 [[.v (.t 0) T3,.obj (.t 1) true 129 5,.v (.c 0 0) T126,.row (.c 0 2) true T91 91,.row (.c 0 3) true T91 91,.mpi (.c 0 4) true T158 T3]] (by kernel_rfl)
def qog(n:Nat):CL Tryz.prog:=⟨[qwV n],[qpN n],0,nof⟩
def qoh(n:Nat):LK Tryz.prog false:=mkG tab (qog n) [] Tryz.f151 [true,false,true,false] 0 9 [10] qA2 [.obj (.t 0) true 129 5,.v (.c 0 0) T126,.row (.c 0 2) true T91 91,.row (.c 0 3) true T91 91,.mpi (.c 0 4) true T158 T3,.obj (.t 2) false 121 1,.pal (.c 4 0) 0 0,.obj (.t 3) false 91 5,.v (.c 5 0) T91,.obj (.t 4) false 158 2,.v (.c 6 0) T158,.obj (.t 5) false 3 1,.v (.c 7 0) T3] [(.ret,[.obj (.t 0) true 129 5,.v (.c 0 0) T126,.row (.c 0 2) true T91 91,.row (.c 0 3) true T91 91,.mpi (.c 0 4) true T158 T3,.obj (.t 4) false 158 2,.v (.c 4 0) T158,.obj (.t 5) false 3 1,.v (.c 5 0) T3])] (by kernel_rfl)
def qo1(n:Nat):Cw Tryz.prog:=mkW tab (qog n) [qoh n] Tryz.func151 [.v (.t 1) T91,.obj (.t 0) true 129 5,.v (.c 0 0) T126,.row (.c 0 2) true T91 91,.row (.c 0 3) true T91 91,.mpi (.c 0 4) true T158 T3] 2 [[.v (.t 0) T158,.v (.t 1) T3,.obj (.t 2) true 129 5,.v (.c 0 0) T126,.row (.c 0 2) true T91 91,.row (.c 0 3) true T91 91,.mpi (.c 0 4) true T158 T3]] (by kernel_rfl)
def qmc(n:Nat):CL Tryz.prog:=⟨[qwV n],[qo1 n],0,nof⟩
def qqs(n:Nat):LK Tryz.prog false:=mkG tab (qmc n) [] Tryz.f120 [true,true,false,true,false,false,true,true,false,false,true,true,true,true,true,false] 1 60 [61] qA2 [.nilf (.t 2),.v (.t 17) T35,.v (.t 18) T3,.v (.t 19) T3,.obj (.t 7) false 121 1,.obj (.c 0 0) false 129 5,.v (.c 1 0) T126,.row (.c 1 2) false T91 91,.row (.c 1 3) false T91 91,.mpi (.c 1 4) false T158 T3,.obj (.t 9) false 91 5,.v (.c 5 0) T91] [] (by kernel_rfl)
def qqt(n:Nat):LK Tryz.prog false:=mkL tab (qmc n) [qqs n] Tryz.f120 [true,true,false,true,false,false] 0 n [.nilf (.t 2),.v (.t 17) T35,.v (.t 18) T3,.v (.t 19) T3,.obj (.t 7) false 121 1,.obj (.c 0 0) false 129 5,.v (.c 1 0) T126,.row (.c 1 2) false T91 91,.row (.c 1 3) false T91 91,.mpi (.c 1 4) false T158 T3] [(.exit 0,[.obj (.t 7) false 121 1,.obj (.c 0 0) false 129 5,.v (.c 1 0) T126,.row (.c 1 2) false T91 91,.row (.c 1 3) false T91 91,.mpi (.c 1 4) false T158 T3])] (by kernel_rfl)
def qrn(n:Nat):Cw Tryz.prog:=mkW tab (qmc n) [qqt n] Tryz.func120 [.v (.t 0) T126,.v (.t 1) T35,.nilf (.t 2)] 3 [[.obj (.t 0) false 129 5,.v (.c 0 0) T126,.row (.c 0 2) false T91 91,.row (.c 0 3) false T91 91,.mpi (.c 0 4) false T158 T3]] (by kernel_rfl)
def qBj(n:Nat):CL Tryz.prog:=⟨[],[qoC n,qfo n,qlS n,qdm n,qdn n],1,nof⟩
def qwW(n:Nat):Ct Tryz.prog:=mkC tab (qBj n) [] Tryz.func121 [.d T35] [T35] (by kernel_rfl)
def qzt(n:Nat):CL Tryz.prog:=⟨[qoA n,qm7 n],[],0,nof⟩
def qqT(n:Nat):Cw Tryz.prog:=mkW tab (qzt n) [] Tryz.func117 [.v (.t 0) T158,.obj (.t 1) true 126 2,.v (.c 0 0) T126] 2 [[.v (.t 0) T4,.obj (.t 1) true 126 2,.v (.c 0 0) T126]] (by kernel_rfl)
def qf8(n:Nat):CL Tryz.prog:=⟨[],[qqT n],0,nof⟩
def qf9(n:Nat):LK Tryz.prog false:=mkL tab (qf8 n) [] Tryz.f150 [true,false,true,false,false] 0 n [.v (.t 0) T155,.v (.t 7) T3,.v (.t 8) T3,.fnc (.t 1) 117 [.box true 126 2],.v (.c 0 0) T126] [(.exit 0,[.fnc (.t 1) 117 [.box true 126 2],.v (.c 0 0) T126]),(.ret,[.v (.t 4) T3,.fnc (.t 1) 117 [.box true 126 2],.v (.c 0 0) T126])] (by kernel_rfl)
def qgm(n:Nat):Cw Tryz.prog:=mkW tab (qf8 n) [qf9 n] Tryz.func150 [.v (.t 0) T155,.fnc (.t 1) 117 [.box true 126 2],.v (.c 0 0) T126] 2 [[.v (.t 0) T3,.obj (.t 1) true 126 2,.v (.c 0 0) T126]] (by kernel_rfl)
def qkc(n:Nat):CL Tryz.prog:=⟨[],[qqT n,qgm n],0,nof⟩
def qfD(n:Nat):Cw Tryz.prog:=mkW tab (qkc n) [] Tryz.func116 [.v (.t 0) T155,.fnc (.t 1) 117 [.box true 126 2],.v (.c 0 0) T126] 2 [[.v (.t 0) T4,.obj (.t 1) true 126 2,.v (.c 0 0) T126]] (by kernel_rfl)
def qBk(n:Nat):CL Tryz.prog:=⟨[qsM n,qwW n],[qfD n,qrn n],4,nof⟩
def qwX(n:Nat):Cw Tryz.prog:=mkW tab (qBk n) [] Tryz.func77 [.v (.t 0) T34,.v (.t 1) T35,.v (.t 2) T155] 3 [[.v (.t 1) T24,.obj (.t 0) false 129 5,.v (.c 0 0) T126,.row (.c 0 2) false T91 91,.row (.c 0 3) false T91 91,.mpi (.c 0 4) false T158 T3],[.nilp (.t 0),.v (.t 1) T24]] (by kernel_rfl)
def qyC(n:Nat):CL Tryz.prog:=⟨[],[qwX n,qx9 n,qrm n],4,nof⟩
def qtM(n:Nat):Ct Tryz.prog:=mkC tab (qyC n) [] Tryz.func36 [.d T34,.d T35] [T22,T24] (by kernel_rfl)
end
section
end
end
end Go.Proofs.YtlmicgmhallkkaaGreatDoor
