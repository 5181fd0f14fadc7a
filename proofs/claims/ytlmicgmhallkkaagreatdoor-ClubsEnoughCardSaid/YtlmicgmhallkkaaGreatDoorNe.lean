/- Texts DnA, DnB, DnC, DnD, DnF, DnG, DnH, DnI, DnE, DnJ in one. -/
import Derived.Test.YtlmicgmhallkkaaGreatDoorDnT
import Derived.Test.YtlmicgmhallkkaaGreatDoorNd
import Derived.Test.YtlmicgmhallkkaaGreatDoorKc
/- Printed: what functions of the program compute. -/
set_option linter.constructorNameAsVariable false
set_option linter.unusedSimpArgs false
set_option linter.unusedVariables false
set_option linter.unusedSectionVars false
namespace Go.Proofs.YtlmicgmhallkkaaGreatDoor
open Go Go.Proofs Go.RowKit
set_option maxRecDepth 20000
noncomputable section
section
def qsX(n:Nat):CL Tryz.prog:=⟨[],[],0,nof⟩
def qfv(n:Nat):Ct Tryz.prog:=mkC tab (qsX n) [] Tryz.func147 [.d T3,.d T3,.d T3] [T4] (by kernel_rfl)
def qmW(n:Nat):CL Tryz.prog:=⟨[qfv n],[],0,nof⟩
def qmX(n:Nat):LK Tryz.prog false:=mkL tab (qmW n) [] Tryz.f113 [true,false,true,false,false] 0 n [.v (.t 3) T3,.obj (.t 1) false 34 2,.v (.c 0 0) T34] [(.exit 0,[.obj (.t 1) false 34 2,.v (.c 0 0) T34]),(.ret,[.v (.t 2) T4])] (by kernel_rfl)
def qnh(n:Nat):Ct Tryz.prog:=mkC tab (qmW n) [qmX n] Tryz.func113 [.d T34] [T4] (by kernel_rfl)
def qlG(n:Nat):CL Tryz.prog:=⟨[qfv n],[],0,nof⟩
def qlH(n:Nat):LK Tryz.prog false:=mkL tab (qlG n) [] Tryz.f148 [true,true,true,false,true,false,false] 0 n [.v (.t 5) T3,.v (.t 6) T3,.obj (.t 2) false 34 2,.v (.c 0 0) T34,.obj (.t 3) false 91 5,.v (.c 1 0) T91] [(.exit 0,[]),(.ret,[.v (.t 4) T4])] (by kernel_rfl)
def qme(n:Nat):Ct Tryz.prog:=mkC tab (qlG n) [qlH n] Tryz.func148 [.d T34,.d T91] [T4] (by kernel_rfl)
def qkx(n:Nat):CL Tryz.prog:=⟨[qfv n,qme n],[],0,nof⟩
def qky(n:Nat):LK Tryz.prog false:=mkL tab (qkx n) [] Tryz.f114 [true,false,true,false,false] 0 n [.v (.t 1) T35,.v (.t 5) T3,.obj (.t 2) false 34 2,.v (.c 0 0) T34] [(.exit 0,[.v (.t 1) T35]),(.ret,[.v (.t 4) T4])] (by kernel_rfl)
def qlb(n:Nat):Ct Tryz.prog:=mkC tab (qkx n) [qky n] Tryz.func114 [.d T34,.d T35] [T4] (by kernel_rfl)
def qn2(n:Nat):CL Tryz.prog:=⟨[],[],0,nof⟩
def qn3(n:Nat):LK Tryz.prog false:=mkL tab (qn2 n) [] Tryz.f149 [true,true,false,true,false,false] 0 n [.v (.t 5) T3,.obj (.t 2) false 91 5,.v (.c 0 0) T91,.obj (.t 3) false 91 5,.v (.c 1 0) T91] [(.exit 0,[]),(.ret,[.v (.t 4) T4])] (by kernel_rfl)
def qoB(n:Nat):Ct Tryz.prog:=mkC tab (qn2 n) [qn3 n] Tryz.func149 [.d T91,.d T91] [T4] (by kernel_rfl)
def qj7(n:Nat):CL Tryz.prog:=⟨[qoB n],[],0,nof⟩
def qn4(n:Nat):LK Tryz.prog false:=mkL tab (qj7 n) [] Tryz.f115 [true,false,true,false,false,true,false,false,true,false,false] 1 n [.v (.t 0) T35,.v (.t 3) T3,.v (.t 4) T3] [(.exit 2,[.v (.t 0) T35,.v (.t 3) T3]),(.ret,[.v (.t 2) T4])] (by kernel_rfl)
def qn5(n:Nat):LK Tryz.prog false:=mkL tab (qj7 n) [qn4 n] Tryz.f115 [true,false,true,false,false] 0 n [.v (.t 0) T35,.v (.t 3) T3] [(.exit 0,[]),(.ret,[.v (.t 2) T4])] (by kernel_rfl)
def qoC(n:Nat):Ct Tryz.prog:=mkC tab (qj7 n) [qn5 n] Tryz.func115 [.d T35] [T4] (by kernel_rfl)
def qtu(n:Nat):CL Tryz.prog:=⟨[qnh n,qlb n,qoC n],[],0,nof⟩
def qoD(n:Nat):Ct Tryz.prog:=mkC tab (qtu n) [] Tryz.func74 [.d T34,.d T35] [T24] (by kernel_rfl)
def qfP(n:Nat):CL Tryz.prog:=⟨[],[],0,nof⟩
def qmf(n:Nat):LK Tryz.prog false:=mkL tab (qfP n) [] Tryz.f131 [true,true,false,true,false,false,true,false,false,true,false,false,true,false,false,true,false,false] 2 n [.v (.t 0) T35,.v (.t 4) T3,.v (.t 5) T3,.v (.t 6) T3,.row (.t 3) false T91 91] [(.exit 4,[.v (.t 0) T35,.v (.t 4) T3,.v (.t 5) T3,.row (.t 3) false T91 91])] (by kernel_rfl)
def qmg(n:Nat):LK Tryz.prog false:=mkL tab (qfP n) [qmf n] Tryz.f131 [true,true,false,true,false,false,true,false,false,true,false,false] 1 n [.v (.t 0) T35,.v (.t 4) T3,.v (.t 5) T3,.row (.t 3) false T91 91] [(.exit 2,[.v (.t 0) T35,.v (.t 4) T3,.row (.t 3) false T91 91])] (by kernel_rfl)
def qmh(n:Nat):LK Tryz.prog false:=mkL tab (qfP n) [qmg n] Tryz.f131 [true,true,false,true,false,false] 0 n [.v (.t 0) T35,.v (.t 4) T3,.row (.t 3) false T91 91] [(.exit 0,[.row (.t 3) false T91 91])] (by kernel_rfl)
def qmY(n:Nat):Ct Tryz.prog:=mkC tab (qfP n) [qmh n] Tryz.func131 [.d T35] [T35] (by kernel_rfl)
def qj8(n:Nat):CL Tryz.prog:=⟨[qmY n],[],0,nof⟩
def qn6(n:Nat):LK Tryz.prog false:=mkL tab (qj8 n) [] Tryz.f94 [true,true,true,false,true,false,false,true,false,false,true,true,true,false,false,false] 1 n [.v (.t 3) T35,.v (.t 5) T3,.v (.t 7) T3,.obj (.t 6) false 91 5,.v (.c 0 0) T91,.row (.t 4) false T91 91] [(.exit 2,[.v (.t 3) T35,.v (.t 5) T3,.v (.t 7) T3,.obj (.t 6) false 91 5,.v (.c 0 0) T91,.row (.t 4) false T91 91])] (by kernel_rfl)
def qn7(n:Nat):LK Tryz.prog false:=mkL tab (qj8 n) [qn6 n] Tryz.f94 [true,true,true,false,true,false,false] 0 n [.v (.t 3) T35,.v (.t 5) T3,.row (.t 4) false T91 91] [(.exit 0,[.row (.t 4) false T91 91])] (by kernel_rfl)
def qoE(n:Nat):Ct Tryz.prog:=mkC tab (qj8 n) [qn7 n] Tryz.func94 [.d T35] [T35] (by kernel_rfl)
def qjx(n:Nat):CL Tryz.prog:=⟨[qfv n],[],0,nof⟩
def qni(n:Nat):LK Tryz.prog false:=mkL tab (qjx n) [] Tryz.f173 [true,true,false,true,false,false,true,false,false,true,false,false] 1 n [.v (.t 0) T35,.v (.t 1) T3,.v (.t 2) T3,.v (.t 7) T3,.v (.t 8) T3,.v (.t 9) T3] [(.exit 2,[.v (.t 0) T35,.v (.t 1) T3,.v (.t 2) T3,.v (.t 7) T3,.v (.t 8) T3])] (by kernel_rfl)
def qnj(n:Nat):LK Tryz.prog false:=mkL tab (qjx n) [qni n] Tryz.f173 [true,true,false,true,false,false] 0 n [.v (.t 0) T35,.v (.t 1) T3,.v (.t 2) T3,.v (.t 7) T3,.v (.t 8) T3] [(.exit 0,[.v (.t 7) T3])] (by kernel_rfl)
def qn8(n:Nat):Ct Tryz.prog:=mkC tab (qjx n) [qnj n] Tryz.func173 [.d T35,.d T3,.d T3] [T3] (by kernel_rfl)
end
section
def qxb(n:Nat):CL Tryz.prog:=⟨[],[],0,nof⟩
def qoF(n:Nat):Ct Tryz.prog:=mkC tab (qxb n) [] Tryz.func133 [.d T3] [T4] (by kernel_rfl)
def qxZ(n:Nat):CL Tryz.prog:=⟨[qoF n],[],0,nof⟩
def qpL(n:Nat):Ct Tryz.prog:=mkC tab (qxZ n) [] Tryz.func166 [.d T3,.d T3] [T4] (by kernel_rfl)
def qvA(n:Nat):CL Tryz.prog:=⟨[qoF n],[],0,nof⟩
def qf0(n:Nat):Ct Tryz.prog:=mkC tab (qvA n) [] Tryz.func100 [.d T3,.d T3] [T3] (by kernel_rfl)
def qvB(n:Nat):CL Tryz.prog:=⟨[],[],0,nof⟩
def qvC(n:Nat):LK Tryz.prog false:=mkL tab (qvB n) [] Tryz.f78 [true,true,false,true,false,false] 0 n [.v (.t 6) T35,.v (.t 7) T3,.v (.t 8) T3,.row (.t 3) false T3 3] [(.exit 0,[.row (.t 3) false T3 3])] (by kernel_rfl)
def qwN(n:Nat):Cw Tryz.prog:=mkW tab (qvB n) [qvC n] Tryz.func78 [.v (.t 0) T35] 1 [[.row (.t 0) false T3 3]] (by kernel_rfl)
def qeL(n:Nat):CL Tryz.prog:=⟨[qpL n],[],0,nof⟩
def qhd(n:Nat):LK Tryz.prog false:=mkL tab (qeL n) [] Tryz.f160 [true,false,false,true,false,false,true,false,false] 1 n [.v (.t 1) T3,.v (.t 2) T3,.v (.t 6) T3,.v (.t 7) T3,.row (.t 0) true T3 3] [(.exit 2,[.v (.t 1) T3,.v (.t 2) T3,.v (.t 6) T3,.row (.t 0) true T3 3])] (by kernel_rfl)
def qhe(n:Nat):LK Tryz.prog false:=mkL tab (qeL n) [qhd n] Tryz.f160 [true,false,false] 0 n [.v (.t 1) T3,.v (.t 2) T3,.v (.t 6) T3,.row (.t 0) true T3 3] [(.exit 0,[.row (.t 0) true T3 3])] (by kernel_rfl)
def qhA(n:Nat):Cw Tryz.prog:=mkW tab (qeL n) [qhe n] Tryz.func160 [.v (.t 1) T3,.v (.t 2) T3,.row (.t 0) true T3 3] 3 [[.row (.t 0) true T3 3]] (by kernel_rfl)
def qvD(n:Nat):CL Tryz.prog:=⟨[],[],0,nof⟩
def qqQ(n:Nat):Ct Tryz.prog:=mkC tab (qvD n) [] Tryz.func170 [.d T167] [T3] (by kernel_rfl)
def qxc(n:Nat):CL Tryz.prog:=⟨[qqQ n],[],0,nof⟩
def qlI(n:Nat):Ct Tryz.prog:=mkC tab (qxc n) [] Tryz.func123 [.d T70] [T3] (by kernel_rfl)
def qx0(n:Nat):CL Tryz.prog:=⟨[],[],0,nof⟩
def qgy(n:Nat):Ct Tryz.prog:=mkC tab (qx0 n) [] Tryz.func134 [.d T3,.d T3,.d T3] [T4] (by kernel_rfl)
def qwm(n:Nat):CL Tryz.prog:=⟨[qgy n],[],0,nof⟩
def qnK(n:Nat):Ct Tryz.prog:=mkC tab (qwm n) [] Tryz.func118 [.d T126,.d T3] [T4] (by kernel_rfl)
def quU(n:Nat):CL Tryz.prog:=⟨[qgy n],[],0,nof⟩
def qmi(n:Nat):Ct Tryz.prog:=mkC tab (quU n) [] Tryz.func119 [.d T126,.d T3] [T4] (by kernel_rfl)
def qpk(n:Nat):CL Tryz.prog:=⟨[qnK n,qmi n,qgy n],[],0,nof⟩
def qpl(n:Nat):LK Tryz.prog false:=mkL tab (qpk n) [] Tryz.f177 [true,true,false,true,false,false] 0 n [.v (.t 5) T3,.v (.t 8) T89,.v (.t 9) T3,.v (.t 10) T3,.obj (.t 2) false 126 2,.v (.c 0 0) T126] [(.exit 0,[]),(.ret,[.v (.t 4) T4])] (by kernel_rfl)
def qqf(n:Nat):Ct Tryz.prog:=mkC tab (qpk n) [qpl n] Tryz.func177 [.d T126,.d T89] [T4] (by kernel_rfl)
def qtv(n:Nat):CL Tryz.prog:=⟨[qgy n,qqf n],[],0,nof⟩
def qoG(n:Nat):Ct Tryz.prog:=mkC tab (qtv n) [] Tryz.func139 [.d T126,.d T91] [T4] (by kernel_rfl)
def quK(n:Nat):CL Tryz.prog:=⟨[],[],0,nof⟩
def quL(n:Nat):LK Tryz.prog false:=mkL tab (quK n) [] Tryz.f159 [true,true,false,true,false,false] 0 n [.v (.t 3) T3,.v (.t 6) T22,.v (.t 7) T3,.v (.t 8) T3] [(.exit 0,[.v (.t 3) T3]),(.ret,[.v (.t 2) T3])] (by kernel_rfl)
def qoH(n:Nat):Ct Tryz.prog:=mkC tab (quK n) [quL n] Tryz.func159 [.d T22] [T3] (by kernel_rfl)
def quM(n:Nat):CL Tryz.prog:=⟨[],[],0,nof⟩
def quN(n:Nat):LK Tryz.prog false:=mkL tab (quM n) [] Tryz.f140 [true,false,true,false,false] 0 n [.v (.t 0) T35,.v (.t 5) T35,.v (.t 6) T3,.v (.t 7) T3] [(.exit 0,[]),(.ret,[.v (.t 2) T4])] (by kernel_rfl)
def qvE(n:Nat):Ct Tryz.prog:=mkC tab (quM n) [quN n] Tryz.func140 [.d T35] [T4] (by kernel_rfl)
def qoI(n:Nat):CL Tryz.prog:=⟨[],[],0,nof⟩
def qoJ(n:Nat):LK Tryz.prog false:=mkL tab (qoI n) [] Tryz.f52 [true,true,false,true,false,false] 0 n [.v (.t 0) T35,.v (.t 4) T3,.row (.t 3) false T91 91] [(.exit 0,[.row (.t 3) false T91 91])] (by kernel_rfl)
def qpm(n:Nat):Ct Tryz.prog:=mkC tab (qoI n) [qoJ n] Tryz.func52 [.d T35] [T35] (by kernel_rfl)
def qq8(n:Nat):CL Tryz.prog:=⟨[],[],0,nof⟩
def qmj(n:Nat):Ct Tryz.prog:=mkC tab (qq8 n) [] Tryz.func51 [.d T34] [T34] (by kernel_rfl)
def qpn(n:Nat):CL Tryz.prog:=⟨[],[],0,nof⟩
def qpo(n:Nat):LK Tryz.prog false:=mkL tab (qpn n) [] Tryz.f45 [true,false,true,false,false] 0 n [.v (.t 1) T35,.v (.t 5) T3,.obj (.t 2) false 34 2,.v (.c 0 0) T34] [(.exit 0,[.v (.t 1) T35,.obj (.t 2) false 34 2,.v (.c 0 0) T34]),(.ret,[.v (.t 4) T4])] (by kernel_rfl)
def qqg(n:Nat):Ct Tryz.prog:=mkC tab (qpn n) [qpo n] Tryz.func45 [.d T34,.d T35] [T4] (by kernel_rfl)
def qr8(n:Nat):CL Tryz.prog:=⟨[],[],0,nof⟩
def qsY(n:Nat):Ct Tryz.prog:=mkC tab (qr8 n) [] Tryz.func80 [] [T34,T35] (by kernel_rfl)
end
section
def qx1(n:Nat):CL Tryz.prog:=⟨[qf0 n,qoH n],[],0,nof⟩
def qmM(n:Nat):Ct Tryz.prog:=mkC tab (qx1 n) [] Tryz.func158 [.d T91,.d T91] [T3] (by kernel_rfl)
def qvF(n:Nat):CL Tryz.prog:=⟨[],[],0,nof⟩
def qnb(n:Nat):Cw Tryz.prog:=mkW tab (qvF n) [] Tryz.func156 [.v (.t 0) T91,.obj (.t 1) true 91 5,.v (.c 0 0) T91] 2 [[.v (.t 0) T4,.obj (.t 1) true 91 5,.v (.c 0 0) T91]] (by kernel_rfl)
def qeN(n:Nat):CL Tryz.prog:=⟨[],[qnb n],0,nof⟩
def qeO(n:Nat):LK Tryz.prog false:=mkL tab (qeN n) [] Tryz.f58 [true,false,true,false,false] 0 n [.v (.t 0) T35,.v (.t 7) T3,.v (.t 8) T3,.fnc (.t 1) 156 [.box true 91 5],.v (.c 0 0) T91] [(.exit 0,[.fnc (.t 1) 156 [.box true 91 5],.v (.c 0 0) T91]),(.ret,[.v (.t 4) T3,.fnc (.t 1) 156 [.box true 91 5],.v (.c 0 0) T91])] (by kernel_rfl)
def q8(n:Nat):Cw Tryz.prog:=mkW tab (qeN n) [qeO n] Tryz.func58 [.v (.t 0) T35,.fnc (.t 1) 156 [.box true 91 5],.v (.c 0 0) T91] 2 [[.v (.t 0) T3,.obj (.t 1) true 91 5,.v (.c 0 0) T91]] (by kernel_rfl)
def qhZ(n:Nat):CL Tryz.prog:=⟨[],[q8 n,qnb n],0,nof⟩
def qcz(n:Nat):Cw Tryz.prog:=mkW tab (qhZ n) [] Tryz.func137 [.v (.t 0) T35,.fnc (.t 1) 156 [.box true 91 5],.v (.c 0 0) T91] 2 [[.v (.t 0) T4,.obj (.t 1) true 91 5,.v (.c 0 0) T91]] (by kernel_rfl)
def qxd(n:Nat):CL Tryz.prog:=⟨[],[qcz n],0,nof⟩
def qoK(n:Nat):Cw Tryz.prog:=mkW tab (qxd n) [] Tryz.func155 [.v (.t 0) T91,.obj (.t 1) true 35 1,.v (.c 0 0) T35] 2 [[.v (.t 0) T4,.obj (.t 1) true 35 1,.v (.c 0 0) T35]] (by kernel_rfl)
def qbM(n:Nat):CL Tryz.prog:=⟨[qmM n],[],0,nof⟩
def qdv(n:Nat):LK Tryz.prog false:=mkL tab (qbM n) [] Tryz.f195 [true,false,false,true,false,false,true,false,false] 1 n [.v (.t 1) T3,.v (.t 2) T3,.fn (.t 3) 158 [] [],.v (.t 8) T3,.v (.t 9) T3,.row (.t 0) true T91 91] [(.exit 2,[.v (.t 1) T3,.v (.t 2) T3,.fn (.t 3) 158 [] [],.v (.t 8) T3,.row (.t 0) true T91 91])] (by kernel_rfl)
def qdw(n:Nat):LK Tryz.prog false:=mkL tab (qbM n) [qdv n] Tryz.f195 [true,false,false] 0 n [.v (.t 1) T3,.v (.t 2) T3,.fn (.t 3) 158 [] [],.v (.t 8) T3,.row (.t 0) true T91 91] [(.exit 0,[.row (.t 0) true T91 91])] (by kernel_rfl)
def qbR(n:Nat):Cw Tryz.prog:=mkW tab (qbM n) [qdw n] Tryz.func195 [.v (.t 1) T3,.v (.t 2) T3,.fn (.t 3) 158 [] [],.row (.t 0) true T91 91] 4 [[.row (.t 0) true T91 91]] (by kernel_rfl)
def qwn(n:Nat):CL Tryz.prog:=⟨[qf0 n,qoH n],[],0,nof⟩
def qrD(n:Nat):Ct Tryz.prog:=mkC tab (qwn n) [] Tryz.func194 [.d T95,.d T95] [T3] (by kernel_rfl)
def qe6(n:Nat):CL Tryz.prog:=⟨[qrD n],[],0,nof⟩
def qe7(n:Nat):LK Tryz.prog false:=mkL tab (qe6 n) [] Tryz.f193 [true,false,true,false,false] 0 n [.v (.t 0) T89,.v (.t 1) T89,.fn (.t 2) 194 [] [],.v (.t 11) T89,.v (.t 12) T3,.v (.t 13) T3] [(.exit 0,[.v (.t 0) T89,.v (.t 1) T89]),(.ret,[.v (.t 6) T3])] (by kernel_rfl)
def qfm(n:Nat):Ct Tryz.prog:=mkC tab (qe6 n) [qe7 n] Tryz.func193 [.d T89,.d T89,.fn 194 [] []] [T3] (by kernel_rfl)
def qx2(n:Nat):CL Tryz.prog:=⟨[qf0 n,qoH n,qfm n],[],0,nof⟩
def qj9(n:Nat):Ct Tryz.prog:=mkC tab (qx2 n) [] Tryz.func179 [.d T91,.d T91] [T3] (by kernel_rfl)
def qbN(n:Nat):CL Tryz.prog:=⟨[qj9 n],[],0,nof⟩
def qdx(n:Nat):LK Tryz.prog false:=mkL tab (qbN n) [] Tryz.f195 [true,false,false,true,false,false,true,false,false] 1 n [.v (.t 1) T3,.v (.t 2) T3,.fn (.t 3) 179 [] [],.v (.t 8) T3,.v (.t 9) T3,.row (.t 0) true T91 91] [(.exit 2,[.v (.t 1) T3,.v (.t 2) T3,.fn (.t 3) 179 [] [],.v (.t 8) T3,.row (.t 0) true T91 91])] (by kernel_rfl)
def qdy(n:Nat):LK Tryz.prog false:=mkL tab (qbN n) [qdx n] Tryz.f195 [true,false,false] 0 n [.v (.t 1) T3,.v (.t 2) T3,.fn (.t 3) 179 [] [],.v (.t 8) T3,.row (.t 0) true T91 91] [(.exit 0,[.row (.t 0) true T91 91])] (by kernel_rfl)
def qbS(n:Nat):Cw Tryz.prog:=mkW tab (qbN n) [qdy n] Tryz.func195 [.v (.t 1) T3,.v (.t 2) T3,.fn (.t 3) 179 [] [],.row (.t 0) true T91 91] 4 [[.row (.t 0) true T91 91]] (by kernel_rfl)
def qvG(n:Nat):CL Tryz.prog:=⟨[qgy n],[],0,nof⟩
def qnc(n:Nat):Ct Tryz.prog:=mkC tab (qvG n) [] Tryz.func136 [.d T163] [T4] (by kernel_rfl)
def qfw(n:Nat):CL Tryz.prog:=⟨[qnc n],[],0,nof⟩
def qfx(n:Nat):LK Tryz.prog false:=mkL tab (qfw n) [] Tryz.f176 [true,false,true,false,false] 0 n [.v (.t 0) T32,.fn (.t 1) 136 [] [],.v (.t 7) T3,.v (.t 8) T3] [(.exit 0,[]),(.ret,[.v (.t 4) T3])] (by kernel_rfl)
def qfF(n:Nat):Ct Tryz.prog:=mkC tab (qfw n) [qfx n] Tryz.func176 [.d T32,.fn 136 [] []] [T3] (by kernel_rfl)
def qjf(n:Nat):CL Tryz.prog:=⟨[qnc n,qfF n],[],0,nof⟩
def qe8(n:Nat):Ct Tryz.prog:=mkC tab (qjf n) [] Tryz.func135 [.d T32,.fn 136 [] []] [T4] (by kernel_rfl)
def qxe(n:Nat):CL Tryz.prog:=⟨[qgy n,qe8 n],[],0,nof⟩
def qsG(n:Nat):Ct Tryz.prog:=mkC tab (qxe n) [] Tryz.func101 [.d T126] [T4] (by kernel_rfl)
def qvH(n:Nat):CL Tryz.prog:=⟨[qj9 n],[],0,nof⟩
def qqR(n:Nat):Ct Tryz.prog:=mkC tab (qvH n) [] Tryz.func181 [.d T91,.d T91] [T4] (by kernel_rfl)
end
section
def qfQ(n:Nat):CL Tryz.prog:=⟨[],[],0,fun _=>false⟩
def qjg(n:Nat):Nat→St→PT (DEx×St):=fun _ _=>.fail
theorem qpb(n:Nat):qbg (qfQ n).c (qv Tryz.f192) 0=[]:=by kernel_rfl
theorem qpc:Tryz.f192.body=some (qv Tryz.f192):=by kernel_rfl
abbrev qfR:List It:=[.raw (.t 0),.v (.t 1) T3]
abbrev qfC:List (List It):=[[.row (.t 0) false T91 91]]
def qk(n:Nat)(x:qg qfR):Option (qbz qfC):=runW tab (qfQ n) (qjg n) (qv Tryz.f192) qfR 2 27 [.tmp 4] qfC x
def qpd(n:Nat):Cw Tryz.prog:=⟨192,2,qfR,1,qfC,qk n,fun _ _ h=>qng (B:=tab) (cs:=qfQ n) (lo:=qjg n) (rs:=[.tmp 4]) Tryz.func192 (by kernel_rfl) qpc (by kernel_rfl) (by decide) (qkN (qpb n) all_nil) h⟩
def qgz(n:Nat):CL Tryz.prog:=⟨[],[qpd n],1,nof⟩
def qka(n:Nat):LK Tryz.prog false:=mkL tab (qgz n) [] Tryz.f178 [true,true,false,true,false,false] 0 n [.v (.t 0) T211,.v (.t 3) T3,.v (.t 9) T211,.v (.t 10) T3,.v (.t 11) T3] [(.exit 0,[.v (.t 0) T211,.v (.t 3) T3])] (by kernel_rfl)
def qkb(n:Nat):LK Tryz.prog false:=mkL tab (qgz n) [] Tryz.f178 [true,true,true,true,false,true,false,false] 1 n [.v (.t 25) T211,.v (.t 26) T3,.v (.t 27) T3,.row (.t 6) false T91 91] [(.exit 2,[.row (.t 6) false T91 91])] (by kernel_rfl)
def qkz(n:Nat):Cw Tryz.prog:=mkW tab (qgz n) [qka n,qkb n] Tryz.func178 [.v (.t 0) T211] 1 [[.row (.t 0) false T91 91]] (by kernel_rfl)
abbrev qn:List It:=[.v (.t 1) T3,.v (.t 2) T3,.v (.t 3) T3,.fn (.t 4) 179 [] [],.row (.t 0) true T91 91]
abbrev ql:List (List It):=[[.row (.t 0) true T91 91]]
abbrev qc:Type:={g:qg qn→Option (qbz ql) // qsD Tryz.prog 184 5 qn 0 ql g}
def qG(n:Nat)(g:qc):CL Tryz.prog:=⟨[qj9 n],[qbR n,qbS n,⟨184,5,qn,0,ql,g.1,g.2⟩],0,fun _=>false⟩
def qd8(n:Nat)(g:qc):Nat→St→PT (DEx×St):=fun _ _=>.fail
abbrev qU:List It:=[.v (.t 1) T3,.v (.t 2) T3,.v (.t 3) T3,.fn (.t 4) 179 [] [],.v (.t 10) T4,.v (.t 11) T4,.row (.t 0) true T91 91]
abbrev qbm:List (DEx×List It):=[(.ret,[.row (.t 0) true T91 91])]
def qeh(n:Nat)(g:qc)(rec:qg qU→Option (qbA qbm))(s:qg qU):Option (qbA qbm):=(qfO tab (qG n g) (qd8 n g) (subC [true,true,false,false] (qv Tryz.f184)) 1 (mkS qU 148 s)).run (Lp.leaf 148 qU qbm rec)
def qco(n:Nat)(g:qc):Lp:=⟨148,qU,qbm,qb n (qeh n g)⟩
theorem qh0(n:Nat)(g:qc):qbg (qG n g).c (subC [true,true,false,false] (qv Tryz.f184)) 1=[]:=by kernel_rfl
theorem qhn(n:Nat)(g:qc)(st:St)(r:DEx×St)(h:((qco n g).go st).Is r):DA Tryz.prog false (.loop (subC [true,true,false,false] (qv Tryz.f184))) st r:=Lp.ok (L:=qco n g) (B:=tab) (cs:=qG n g) (lo:=qd8 n g) (id:=0) rfl (qkN (qh0 n g) all_nil) (fun _ _=>rfl) h
def qei(n:Nat)(g:qc):Nat→St→PT (DEx×St):=fun k st=>match k with
 | 0=>(qco n g).go st
 | _=>.fail
theorem qh8(n:Nat)(g:qc):qbg (qG n g).c (qv Tryz.f184) 0=[(0,.loop (subC [true,true,false,false] (qv Tryz.f184)))]:=by kernel_rfl
theorem qh9:Tryz.f184.body=some (qv Tryz.f184):=by kernel_rfl
def qcp(n:Nat)(g:qc)(x:qg qn):Option (qbz ql):=runW tab (qG n g) (qei n g) (qv Tryz.f184) qn 5 148 [] ql x
theorem qh1(n:Nat)(g:qc):qsD Tryz.prog 184 5 qn 0 ql (qcp n g):=fun _ _ h=>qng (B:=tab) (cs:=qG n g) (lo:=qei n g) (rs:=[]) Tryz.func184 (by kernel_rfl) qh9 (by kernel_rfl) (by decide) (qkN (qh8 n g) (all_cons (fun st r h=>qhn n g st r h) all_nil)) h
def qD(n:Nat):Nat→qc
 | 0=>⟨fun _=>none,fun _ _ h=>by cases h⟩
 | k+1=>⟨qcp n (qD n k),qh1 n (qD n k)⟩
def qew(n:Nat)(x:qg qn):Option (qbz ql):=(qD n n).1 x
def qex(n:Nat):Cw Tryz.prog:=⟨184,5,qn,0,ql,qew n,(qD n n).2⟩
def qjV(n:Nat):CL Tryz.prog:=⟨[qlI n,qj9 n],[qex n],0,nof⟩
def qdf(n:Nat):Cw Tryz.prog:=mkW tab (qjV n) [] Tryz.func157 [.fn (.t 1) 179 [] [],.row (.t 0) true T91 91] 2 [[.row (.t 0) true T91 91]] (by kernel_rfl)
abbrev qo:List It:=[.v (.t 1) T3,.v (.t 2) T3,.v (.t 3) T3,.fn (.t 4) 158 [] [],.row (.t 0) true T91 91]
abbrev qm:List (List It):=[[.row (.t 0) true T91 91]]
abbrev qd:Type:={g:qg qo→Option (qbz qm) // qsD Tryz.prog 184 5 qo 0 qm g}
def qH(n:Nat)(g:qd):CL Tryz.prog:=⟨[qmM n],[qbR n,qbS n,⟨184,5,qo,0,qm,g.1,g.2⟩],0,fun _=>false⟩
def qd9(n:Nat)(g:qd):Nat→St→PT (DEx×St):=fun _ _=>.fail
abbrev qV:List It:=[.v (.t 1) T3,.v (.t 2) T3,.v (.t 3) T3,.fn (.t 4) 158 [] [],.v (.t 10) T4,.v (.t 11) T4,.row (.t 0) true T91 91]
abbrev qbn:List (DEx×List It):=[(.ret,[.row (.t 0) true T91 91])]
def qej(n:Nat)(g:qd)(rec:qg qV→Option (qbA qbn))(s:qg qV):Option (qbA qbn):=(qfO tab (qH n g) (qd9 n g) (subC [true,true,false,false] (qv Tryz.f184)) 1 (mkS qV 148 s)).run (Lp.leaf 148 qV qbn rec)
def qcq(n:Nat)(g:qd):Lp:=⟨148,qV,qbn,qb n (qej n g)⟩
theorem qh2(n:Nat)(g:qd):qbg (qH n g).c (subC [true,true,false,false] (qv Tryz.f184)) 1=[]:=by kernel_rfl
theorem qho(n:Nat)(g:qd)(st:St)(r:DEx×St)(h:((qcq n g).go st).Is r):DA Tryz.prog false (.loop (subC [true,true,false,false] (qv Tryz.f184))) st r:=Lp.ok (L:=qcq n g) (B:=tab) (cs:=qH n g) (lo:=qd9 n g) (id:=0) rfl (qkN (qh2 n g) all_nil) (fun _ _=>rfl) h
def qek(n:Nat)(g:qd):Nat→St→PT (DEx×St):=fun k st=>match k with
 | 0=>(qcq n g).go st
 | _=>.fail
theorem qia(n:Nat)(g:qd):qbg (qH n g).c (qv Tryz.f184) 0=[(0,.loop (subC [true,true,false,false] (qv Tryz.f184)))]:=by kernel_rfl
theorem qib:Tryz.f184.body=some (qv Tryz.f184):=by kernel_rfl
def qcr(n:Nat)(g:qd)(x:qg qo):Option (qbz qm):=runW tab (qH n g) (qek n g) (qv Tryz.f184) qo 5 148 [] qm x
theorem qh3(n:Nat)(g:qd):qsD Tryz.prog 184 5 qo 0 qm (qcr n g):=fun _ _ h=>qng (B:=tab) (cs:=qH n g) (lo:=qek n g) (rs:=[]) Tryz.func184 (by kernel_rfl) qib (by kernel_rfl) (by decide) (qkN (qia n g) (all_cons (fun st r h=>qho n g st r h) all_nil)) h
def qE(n:Nat):Nat→qd
 | 0=>⟨fun _=>none,fun _ _ h=>by cases h⟩
 | k+1=>⟨qcr n (qE n k),qh3 n (qE n k)⟩
def qey(n:Nat)(x:qg qo):Option (qbz qm):=(qE n n).1 x
def qic(n:Nat):Cw Tryz.prog:=⟨184,5,qo,0,qm,qey n,(qE n n).2⟩
def qjW(n:Nat):CL Tryz.prog:=⟨[qlI n,qmM n],[qex n,qic n],0,nof⟩
def qdg(n:Nat):Cw Tryz.prog:=mkW tab (qjW n) [] Tryz.func157 [.fn (.t 1) 158 [] [],.row (.t 0) true T91 91] 2 [[.row (.t 0) true T91 91]] (by kernel_rfl)
def qcs(n:Nat):CL Tryz.prog:=⟨[qqR n],[],0,nof⟩
def qel(n:Nat):LK Tryz.prog false:=mkL tab (qcs n) [] Tryz.f180 [true,true,false,true,false,false,true,false,false,true,false,true,false,true,false,false] 1 n [.fn (.t 1) 181 [] [],.v (.t 5) T3,.v (.t 7) T3,.row (.t 0) true T91 91,.sub (.t 6) 0] [(.exit 2,[.v (.t 5) T3,.row (.t 0) true T91 91])] (by kernel_rfl)
def qem(n:Nat):LK Tryz.prog false:=mkL tab (qcs n) [qel n] Tryz.f180 [true,true,false,true,false,false] 0 n [.fn (.t 1) 181 [] [],.v (.t 5) T3,.row (.t 0) true T91 91] [(.exit 0,[.row (.t 0) true T91 91]),(.ret,[.row (.t 0) true T91 91,.sub (.t 4) 0])] (by kernel_rfl)
def qez(n:Nat):Cw Tryz.prog:=mkW tab (qcs n) [qem n] Tryz.func180 [.fn (.t 1) 181 [] [],.row (.t 0) true T91 91] 2 [[.row (.t 1) true T91 91,.sub (.t 0) 0]] (by kernel_rfl)
def qeA(n:Nat):CL Tryz.prog:=⟨[],[qoK n],0,nof⟩
def qeB(n:Nat):LK Tryz.prog false:=mkL tab (qeA n) [] Tryz.f58 [true,false,true,false,false] 0 n [.v (.t 7) T3,.v (.t 8) T3,.row (.t 0) true T91 91,.fnc (.t 1) 155 [.box true 35 1],.v (.c 1 0) T35] [(.exit 0,[.row (.t 0) true T91 91,.fnc (.t 1) 155 [.box true 35 1],.v (.c 1 0) T35]),(.ret,[.v (.t 4) T3,.row (.t 0) true T91 91,.fnc (.t 1) 155 [.box true 35 1],.v (.c 1 0) T35])] (by kernel_rfl)
def qbv(n:Nat):Cw Tryz.prog:=mkW tab (qeA n) [qeB n] Tryz.func58 [.row (.t 0) true T91 91,.fnc (.t 1) 155 [.box true 35 1],.v (.c 1 0) T35] 2 [[.v (.t 0) T3,.row (.t 1) true T91 91,.obj (.t 2) true 35 1,.v (.c 1 0) T35]] (by kernel_rfl)
def qe0(n:Nat):CL Tryz.prog:=⟨[],[qbv n,q8 n,qoK n],0,nof⟩
def qe1(n:Nat):LK Tryz.prog false:=mkL tab (qe0 n) [] Tryz.f153 [true,true,true,false,true,false,false] 0 n [.v (.t 5) T3,.v (.t 6) T3,.row (.t 0) true T91 91,.fnc (.t 1) 155 [.box true 35 1],.v (.c 1 0) T35] [(.exit 0,[.v (.t 5) T3,.row (.t 0) true T91 91,.fnc (.t 1) 155 [.box true 35 1],.v (.c 1 0) T35])] (by kernel_rfl)
def qe9(n:Nat):Cw Tryz.prog:=mkW tab (qe0 n) [qe1 n] Tryz.func153 [.row (.t 0) true T91 91,.fnc (.t 1) 155 [.box true 35 1],.v (.c 1 0) T35] 2 [[.row (.t 1) true T91 91,.obj (.t 2) true 35 1,.v (.c 1 0) T35,.sub (.t 0) 0]] (by kernel_rfl)
abbrev qbc:List It:=[.v (.t 1) T3,.v (.t 2) T3,.v (.t 3) T3,.row (.t 0) true T3 3]
abbrev q9:List (List It):=[[.row (.t 0) true T3 3]]
abbrev qt:Type:={g:qg qbc→Option (qbz q9) // qsD Tryz.prog 122 4 qbc 0 q9 g}
def qci(n:Nat)(g:qt):CL Tryz.prog:=⟨[qpL n],[qhA n,⟨122,4,qbc,0,q9,g.1,g.2⟩],0,fun _=>false⟩
def qjh(n:Nat)(g:qt):Nat→St→PT (DEx×St):=fun _ _=>.fail
abbrev qcY:List It:=[.v (.t 1) T3,.v (.t 2) T3,.v (.t 3) T3,.v (.t 8) T4,.v (.t 9) T4,.row (.t 0) true T3 3]
abbrev qet:List (DEx×List It):=[(.ret,[.row (.t 0) true T3 3])]
def qjL(n:Nat)(g:qt)(rec:qg qcY→Option (qbA qet))(s:qg qcY):Option (qbA qet):=(qfO tab (qci n g) (qjh n g) (subC [true,true,false,false] (qv Tryz.f122)) 1 (mkS qcY 134 s)).run (Lp.leaf 134 qcY qet rec)
def qgc(n:Nat)(g:qt):Lp:=⟨134,qcY,qet,qb n (qjL n g)⟩
theorem qpe(n:Nat)(g:qt):qbg (qci n g).c (subC [true,true,false,false] (qv Tryz.f122)) 1=[]:=by kernel_rfl
theorem qnL(n:Nat)(g:qt)(st:St)(r:DEx×St)(h:((qgc n g).go st).Is r):DA Tryz.prog false (.loop (subC [true,true,false,false] (qv Tryz.f122))) st r:=Lp.ok (L:=qgc n g) (B:=tab) (cs:=qci n g) (lo:=qjh n g) (id:=0) rfl (qkN (qpe n g) all_nil) (fun _ _=>rfl) h
def qjM(n:Nat)(g:qt):Nat→St→PT (DEx×St):=fun k st=>match k with
 | 0=>(qgc n g).go st
 | _=>.fail
theorem qpM(n:Nat)(g:qt):qbg (qci n g).c (qv Tryz.f122) 0=[(0,.loop (subC [true,true,false,false] (qv Tryz.f122)))]:=by kernel_rfl
theorem qpN:Tryz.f122.body=some (qv Tryz.f122):=by kernel_rfl
def qgd(n:Nat)(g:qt)(x:qg qbc):Option (qbz q9):=runW tab (qci n g) (qjM n g) (qv Tryz.f122) qbc 4 134 [] q9 x
theorem qpf(n:Nat)(g:qt):qsD Tryz.prog 122 4 qbc 0 q9 (qgd n g):=fun _ _ h=>qng (B:=tab) (cs:=qci n g) (lo:=qjM n g) (rs:=[]) Tryz.func122 (by kernel_rfl) qpN (by kernel_rfl) (by decide) (qkN (qpM n g) (all_cons (fun st r h=>qnL n g st r h) all_nil)) h
def qbK(n:Nat):Nat→qt
 | 0=>⟨fun _=>none,fun _ _ h=>by cases h⟩
 | k+1=>⟨qgd n (qbK n k),qpf n (qbK n k)⟩
def qkc(n:Nat)(x:qg qbc):Option (qbz q9):=(qbK n n).1 x
def qpO(n:Nat):Cw Tryz.prog:=⟨122,4,qbc,0,q9,qkc n,(qbK n n).2⟩
def quV(n:Nat):CL Tryz.prog:=⟨[qlI n],[qpO n],0,nof⟩
def qqh(n:Nat):Cw Tryz.prog:=mkW tab (quV n) [] Tryz.func79 [.row (.t 0) true T3 3] 1 [[.row (.t 0) true T3 3]] (by kernel_rfl)
def qwo(n:Nat):CL Tryz.prog:=⟨[],[qdf n,qdg n,qkz n,qez n],1,nof⟩
def qnM(n:Nat):Cw Tryz.prog:=mkW tab (qwo n) [] Tryz.func141 [.v (.t 0) T211] 1 [[.row (.t 0) false T91 91]] (by kernel_rfl)
def qq9(n:Nat):CL Tryz.prog:=⟨[qoG n],[],0,nof⟩
def qid(n:Nat):Cw Tryz.prog:=mkW tab (qq9 n) [] Tryz.func138 [.v (.t 0) T91,.obj (.t 1) true 126 2,.v (.c 0 0) T126] 2 [[.v (.t 0) T4,.obj (.t 1) true 126 2,.v (.c 0 0) T126]] (by kernel_rfl)
def qdN(n:Nat):CL Tryz.prog:=⟨[],[qid n],0,nof⟩
def qdO(n:Nat):LK Tryz.prog false:=mkL tab (qdN n) [] Tryz.f58 [true,false,true,false,false] 0 n [.v (.t 0) T35,.v (.t 7) T3,.v (.t 8) T3,.fnc (.t 1) 138 [.box true 126 2],.v (.c 0 0) T126] [(.exit 0,[.fnc (.t 1) 138 [.box true 126 2],.v (.c 0 0) T126]),(.ret,[.v (.t 4) T3,.fnc (.t 1) 138 [.box true 126 2],.v (.c 0 0) T126])] (by kernel_rfl)
def qb8(n:Nat):Cw Tryz.prog:=mkW tab (qdN n) [qdO n] Tryz.func58 [.v (.t 0) T35,.fnc (.t 1) 138 [.box true 126 2],.v (.c 0 0) T126] 2 [[.v (.t 0) T3,.obj (.t 1) true 126 2,.v (.c 0 0) T126]] (by kernel_rfl)
def qgA(n:Nat):CL Tryz.prog:=⟨[],[qbv n,q8 n,qb8 n,qid n],0,nof⟩
def qdz(n:Nat):Cw Tryz.prog:=mkW tab (qgA n) [] Tryz.func137 [.v (.t 0) T35,.fnc (.t 1) 138 [.box true 126 2],.v (.c 0 0) T126] 2 [[.v (.t 0) T4,.obj (.t 1) true 126 2,.v (.c 0 0) T126]] (by kernel_rfl)
def qsZ(n:Nat):CL Tryz.prog:=⟨[qvE n],[qcz n,qdz n,qnM n],1,nof⟩
def qn9(n:Nat):Ct Tryz.prog:=mkC tab (qsZ n) [] Tryz.func102 [.d T126,.d T35] [T24] (by kernel_rfl)
def qzS(n:Nat):CL Tryz.prog:=⟨[qsG n,qn9 n],[],0,nof⟩
def qrE(n:Nat):Ct Tryz.prog:=mkC tab (qzS n) [] Tryz.func61 [.d T34,.d T35] [T24] (by kernel_rfl)
end
section
def qfD(n:Nat):CL Tryz.prog:=⟨[],[],0,fun _=>false⟩
def qiM(n:Nat):Nat→St→PT (DEx×St):=fun _ _=>.fail
theorem qoL(n:Nat):qbg (qfD n).c (qv Tryz.f154) 0=[]:=by kernel_rfl
theorem qoM:Tryz.f154.body=some (qv Tryz.f154):=by kernel_rfl
abbrev qfE:List It:=[.raw (.t 0)]
abbrev qfq:List (List It):=[[.row (.t 0) false T91 91]]
def qea(n:Nat)(x:qg qfE):Option (qbz qfq):=runW tab (qfD n) (qiM n) (qv Tryz.f154) qfE 1 8 [.tmp 2] qfq x
def qoN(n:Nat):Cw Tryz.prog:=⟨154,1,qfE,1,qfq,qea n,fun _ _ h=>qng (B:=tab) (cs:=qfD n) (lo:=qiM n) (rs:=[.tmp 2]) Tryz.func154 (by kernel_rfl) qoM (by kernel_rfl) (by decide) (qkN (qoL n) all_nil) h⟩
def qgW(n:Nat):CL Tryz.prog:=⟨[],[],0,fun _=>false⟩
def qkA(n:Nat):Nat→St→PT (DEx×St):=fun _ _=>.fail
theorem qqB(n:Nat):qbg (qgW n).c (qv Tryz.f154) 0=[]:=by kernel_rfl
theorem qqC:Tryz.f154.body=some (qv Tryz.f154):=by kernel_rfl
abbrev qgX:List It:=[.v (.t 0) T35]
abbrev qeM:List (List It):=[[.row (.t 0) false T91 91]]
def qff(n:Nat)(x:qg qgX):Option (qbz qeM):=runW tab (qgW n) (qkA n) (qv Tryz.f154) qgX 1 8 [.tmp 2] qeM x
def qqD(n:Nat):Cw Tryz.prog:=⟨154,1,qgX,1,qeM,qff n,fun _ _ h=>qng (B:=tab) (cs:=qgW n) (lo:=qkA n) (rs:=[.tmp 2]) Tryz.func154 (by kernel_rfl) qqC (by kernel_rfl) (by decide) (qkN (qqB n) all_nil) h⟩
end
theorem qqE(n:Nat)(c:Nat):qea n (.slice none 0 c,())=some ([],()):=by kernel_rfl
theorem qqF(n:Nat)(a:Addr)(c:Nat):qea n (.slice (some a) 0 c,())=some ([],()):=by kernel_rfl
def qlc(n:Nat):Cw Tryz.prog:=qCa 154 T91 qeM (qea n) (qff n) ([],()) (fun v y m0 h=>(qoN n).okk (x:=(v,())) (y:=y) h m0 (qup m0)) (fun l y m0 h=>(qqD n).okk (x:=(l,())) (y:=y) h m0 (qup m0)) (fun A c=>by cases A with | none=>exact qqE n c | some a=>exact qqF n a c)
def qqG(n:Nat):=(qlc n).M
set_option maxHeartbeats 4000000
def qf1(hut:Int)(lo:Int):Nat→List (Int×Int)
 | 0=>[]
 | n+1=>(hut,lo)::qf1 hut (lo+1) n
def qnk(s:Int×(Int×Int)):List (Int×Int):=qf1 s.1 s.2.1 (s.2.2+1-s.2.1).toNat
def qW:List (Int×(Int×Int))→List (Int×Int)
 | []=>[]
 | s::l=>qnk s++qW l
def qvI(l:List (Int×(Int×Int))):Bool:=Nat.ble l.length 1000000&&l.all fun s=>decide (-9223372036854775808≤s.2.1)&&decide (s.2.2<9223372036854775807)
def qx3(y:Int×Int):qR [T158]:=(y,())
theorem qzA(l:List (Int×Int)):((l.map qx3).map (tysA [T158])).length=l.length:=by rw[List.length_map,List.length_map]
def qrF(l:List (Int×(Int×Int))):Option (List (qR [T158])):=cond (qvI l) (some ((qW l).map qx3)) none
def qji(l:List (Int×(Int×Int)))(k:Nat):Nat:=(qW (l.take k)).length
theorem qs0(h:Int):∀(n:Nat) (lo:Int),(qf1 h lo n).length=n
 | 0,_=>rfl
 | n+1,lo=>by simp[qf1,qs0 h n]
theorem qx4(h:Int):∀(n:Nat) (lo:Int) (j:Nat),j<n→(qf1 h lo n)[j]?=some (h,lo+j)
 | n+1,lo,0,_=>by simp[qf1]
 | n+1,lo,j+1,hj=>by
  simp only[qf1,List.getElem?_cons_succ]
  rw[qx4 h n (lo+1) j (by omega)]
  congr 2
  omega
theorem quq:∀(l m:List (Int×(Int×Int))),qW (l++m)=qW l++qW m
 | [],_=>rfl
 | s::l,m=>by simp[qW,quq l m]
theorem qCU(l:List (Int×(Int×Int)))(k:Nat)(hk:k<l.length):qji l (k+1)=qji l k+(l[k].2.2+1-l[k].2.1).toNat:=by
 unfold qji
 rw[List.take_succ_eq_append_getElem hk,quq]
 simp[qW,qnk,qs0]
theorem qD8(l:List (Int×(Int×Int))):qji l l.length=(qW l).length:=by unfold qji;simp
theorem qFL(l:List (Int×(Int×Int)))(k:Nat)(hk:k<l.length)(j:Nat)(hj:j<(l[k].2.2+1-l[k].2.1).toNat):(qW l)[qji l k+j]?=some (l[k].1,l[k].2.1+j):=by
 have h1:l=l.take k++l[k]::l.drop (k+1):=by simp
 have h2:qW l=qW (l.take k)++(qnk l[k]++qW (l.drop (k+1))):=by
  conv=>lhs;rw[h1]
  rw[quq];rfl
 rw[h2,List.getElem?_append_right (by unfold qji;omega),show qji l k+j-(qW (l.take k)).length=j by unfold qji;omega,List.getElem?_append_left (by unfold qnk;rw[qs0];exact hj)]
 exact qx4 _ _ _ _ hj
theorem qGJ{a b:Int}(h:a=b):[AV.int a]=[AV.int b]:=by rw[h]
theorem qFM(x:qR [T91])(l:List (qR [T158]))(h:qrF x.1.2.2.2.2=some l):qxx Tryz.prog false 183 [] (qhz [T91] x) (l.map (tysA [T158])):=by
 obtain ⟨⟨ma,mb,mc,md,ss⟩,u⟩:=x
 change List (Int×(Int×Int)) at ss
 unfold qrF at h
 cases hb:qvI ss with
 | false=>simp only at h;rw[hb] at h;cases h
 | true =>
 simp only at h;rw[hb] at h
 injection h with h
 subst h
 unfold qvI at hb
 simp only[Bool.and_eq_true,Nat.ble_eq,List.all_eq_true,decide_eq_true_eq] at hb
 obtain ⟨hlen,hbd⟩:=hb
 refine ⟨enters_of Tryz.func183 (by kernel_rfl) rfl,fun lp T J Jx X hcJ hcx hone hy=>?_⟩
 have hyk:∀k (hk:k<ss.length) (j:Nat),j<(ss[k].2.2+1-ss[k].2.1).toNat→qxw Tryz.prog T lp [.agg [.int ss[k].1,.int (ss[k].2.1+j)]] (J (qji ss k+j)) (J (qji ss k+j+1)) Jx:=fun k hk j hj=>by
  have h1:=qFL ss k hk j hj
  have h2:=(List.getElem?_eq_some_iff.1 h1).1
  have h3:=hy (qji ss k+j) (by rw[qzA];exact h2)
  rw[List.getElem_map,List.getElem_map,(List.getElem?_eq_some_iff.1 h1).2] at h3
  exact h3
 have hY:=Lib.hid hyk
 have hN:=Lib.hid (qCU ss)
 have hN0:qji ss 0=0:=rfl
 have hNl:qji ss ss.length=(((qW ss).map qx3).map (tysA [T158])).length:=by rw[qD8,qzA]
 show MCT Tryz.prog T 183 [.val (.func (.yield lp) #[] #[]),.rp [.val (.int .i64 ma),.val (.int .i64 mb),.val (.int .i64 mc),.val (.int .i64 md),.sl 3 (ss.map fun s=>[.val (.int .i64 s.1),.val (.int .i64 s.2.1),.val (.int .i64 s.2.2)])]] [.nodef,.ghost X (J 0)] fun _ H'=>∃X',HE.ghost X' (J (((qW ss).map qx3).map (tysA [T158])).length)∈H'∨HE.ghost X' Jx∈H'
 rw[← hNl,← hN0]
 clear hy hyk hNl
 generalize hrr:(ss.map fun s=>[AV.val (.int .i64 s.1),AV.val (.int .i64 s.2.1),AV.val (.int .i64 s.2.2)])=rr
 have hrl:rr.length=ss.length:=by rw[← hrr];simp
 have hra:∀k (hk:k<ss.length),rr[k]?=some [.int ss[k].1,.int ss[k].2.1,.int ss[k].2.2]:=fun k hk=>by rw[← hrr,List.getElem?_map,List.getElem?_eq_getElem hk];rfl
 (refine MCT.of Tryz.func183 (by kernel_rfl) rfl (by simp only[Tryz.ntmps183,List.length_cons,List.length_nil,Nat.reduceAdd,Nat.reduceSub,List.replicate_succ,List.replicate_zero,List.cons_append,List.nil_append];rfl) fun w0 S hM hT=>?_;have hF:Wf Fence.wide:=.inl rfl)
 (repeat' (first | ((first | with_reducible refine AL.id_ ?_ | with_reducible refine AE.id_ ?_);first | refine AL.build0 hF rfl rfl rfl (fun b=>⟨_,(by simp only[AV.put];rfl),?_⟩) | refine W.s rfl rfl (by first | exact AY.bx rfl (by simp only[evO,AV.get];rfl) rfl | exact AY.mkFn rfl (by simp only[List.map_cons,List.map_nil,evO,AV.get];rfl) | exact AY.mkFn1 rfl (by simp only[evO,AV.get];rfl) (by simp only[List.map_cons,List.map_nil,evO,AV.get];rfl) | exact hEQ rfl rfl rfl | exact Step2.sound (by first | (((first | (apply Step2.a;constructor) | (apply Step2.b;constructor))<;>first | infer_instance | skip)<;>(first | infer_instance | (refine w64c ?_;omega) | (refine qtV ?_;omega) | (refine qrr ?_;omega) | (refine qrs ?_;omega) | (refine qtS ?_;omega) | ((repeat (first | exact .head _ | refine .tail _ ?_));done) | assumption | (simp only[List.drop_succ_cons,List.drop_zero,List.length_map,Nat.zero_add,Nat.mul_one];rfl) | rfl | omega | (simp;done))) | fail) rfl | exact AY.call rfl rfl _ rfl (by fail) | exact AY.slice1 rfl rfl rfl (by rfl) (by first | (simp;done) | fail) | exact AY.callF rfl _ _ rfl _ rfl (by fail) | exact AY.old1k 0 rfl rfl rfl (by first | assumption | rfl) | exact AY.old1k 1 rfl rfl rfl (by first | assumption | rfl) | exact AY.old1k 2 rfl rfl rfl (by first | assumption | rfl) | exact AY.oldNk 0 rfl rfl rfl (by first | omega | (simp;omega)) (by first | assumption | rfl) | exact AY.oldNk 1 rfl rfl rfl (by first | omega | (simp;omega)) (by first | assumption | rfl)) (by simp only[AV.put];rfl) ?_ | (refine AL.nilK (hK _ _ ?_);clear hK K) | (refine AE.nil (hK _ ?_);clear hK K) | refine W.k rfl rfl (by simp only[AV.put];rfl) ?_ | refine AL.unguardS rfl rfl ?_ | refine AL.al hF rfl rfl rfl (by first | (simp only[Value.cells,List.map_cons,List.map_nil];rfl) | rfl) (fun b=>⟨_,(by simp only[AV.put];rfl),?_⟩) | refine AL.st1 hF rfl rfl rfl rfl (by simp only[evO,AV.get];rfl) (by first | exact qlx | exact qly | exact qlz | exact qlA | exact qlB | exact qlC | exact qlD | exact qlE) (by rfl) rfl (by rfl) (by first | (simp;done) | (simp;omega) | omega) (by simp only[List.set];rfl) ?_ | refine AL.stW hF rfl rfl rfl rfl (by simp only[evO,AV.get];rfl) (by first | exact qlx | exact qly | exact qlz | exact qlA | exact qlB | exact qlC | exact qlD | exact qlE) (by rfl) (by rfl) (by rfl) (by first | rfl | simp) (by simp only[List.set];rfl) ?_) | (with_reducible refine Awp.id_ ?_;first | refine Awp.seq ?_ | refine Awp.regionK (by first | (simp only[AV.putO,AV.put];rfl) | rfl) (fun K hK=>?_) | refine Awp.drawE (by first | (simp only[AV.putO,AV.put];rfl) | rfl) mixed rfl (by kernel_rfl) (fun K hK=>?_) | refine Awp.block ?_ | refine Awp.skip ?_ | refine Awp.exit ?_ | refine Awp.ret ?_ | refine Awp.condT rfl ?_ | refine Awp.condF rfl ?_) | refine qpy ?_ | refine qpz ?_ | refine qpA ?_ | refine qkH ?_ | refine qkI ?_ | refine qkJ ?_ | refine qkK rfl ?_ | ((first | ((first | with_reducible refine AL.id_ ?_ | with_reducible refine AE.id_ ?_);(fail_if_success refine W.on rfl ?_);refine W.p rfl rfl (by simp only[AV.put];rfl) (by simp only[AV.put];rfl) (fun hb=>?_) (fun hb=>?_)) | (with_reducible refine Awp.id_ ?_;refine Awp.cond _ rfl (fun hb=>?_) (fun hb=>?_)))<;>(try simp only[z1,z2,z3,z4,z5,z6,z7,z8,y5,y6,y7,y8,z9,x1,x2,x3,x4,x5,x6,x7,x8] at hb;try (exfalso;omega)))))
 refine Awp.loopM [4,5,10,11,12,13,14,15,16,17,18,19,20,21,22,23,24,25,26,27,28,29,30] [9] (fun n vs H=>∃(k:Nat) (X':Nat→Prop),n+k=ss.length∧vs=[.int k]∧H=[.nodef,.ghost X' (J (qji ss k))]) ss.length ⟨0,X,rfl,rfl,rfl⟩ ?_
 rintro n ju vs H ⟨k,X',hk,rfl,rfl⟩
 (refine Awp.slots (by first | (simp only[putl,mask,AV.put];rfl) | rfl) ?_)
 by_cases hlt:k<ss.length
 ·have hrow:=hra k hlt
  have hYk:=Lib.hid (hY.out k hlt)
  have hNk:=hN.out k hlt
  obtain ⟨hb1,hb2⟩:=hbd _ (List.getElem_mem hlt)
  generalize ss[k].1=hu at *
  generalize ss[k].2.1=lo at *
  generalize ss[k].2.2=hi at *
  (repeat' (first | ((first | with_reducible refine AL.id_ ?_ | with_reducible refine AE.id_ ?_);first | refine AL.build0 hF rfl rfl rfl (fun b=>⟨_,(by simp only[AV.put];rfl),?_⟩) | refine W.s rfl rfl (by first | exact AY.bx rfl (by simp only[evO,AV.get];rfl) rfl | exact AY.mkFn rfl (by simp only[List.map_cons,List.map_nil,evO,AV.get];rfl) | exact AY.mkFn1 rfl (by simp only[evO,AV.get];rfl) (by simp only[List.map_cons,List.map_nil,evO,AV.get];rfl) | exact hEQ rfl rfl rfl | exact Step2.sound (by first | (((first | (apply Step2.a;constructor) | (apply Step2.b;constructor))<;>first | infer_instance | skip)<;>(first | infer_instance | (refine w64c ?_;omega) | (refine qtV ?_;omega) | (refine qrr ?_;omega) | (refine qrs ?_;omega) | (refine qtS ?_;omega) | ((repeat (first | exact .head _ | refine .tail _ ?_));done) | assumption | (simp only[List.drop_succ_cons,List.drop_zero,List.length_map,Nat.zero_add,Nat.mul_one];rfl) | rfl | omega | (simp;done))) | fail) rfl | exact AY.call rfl rfl _ rfl (by fail) | exact AY.slice1 rfl rfl rfl (by rfl) (by first | (simp;done) | fail) | exact AY.callF rfl _ _ rfl _ rfl (by fail) | exact AY.old1k 0 rfl rfl rfl (by first | assumption | rfl) | exact AY.old1k 1 rfl rfl rfl (by first | assumption | rfl) | exact AY.old1k 2 rfl rfl rfl (by first | assumption | rfl) | exact AY.oldNk 0 rfl rfl rfl (by first | omega | (simp;omega)) (by first | assumption | rfl) | exact AY.oldNk 1 rfl rfl rfl (by first | omega | (simp;omega)) (by first | assumption | rfl)) (by simp only[AV.put];rfl) ?_ | (refine AL.nilK (hK _ _ ?_);clear hK K) | (refine AE.nil (hK _ ?_);clear hK K) | refine W.k rfl rfl (by simp only[AV.put];rfl) ?_ | refine AL.unguardS rfl rfl ?_ | refine AL.al hF rfl rfl rfl (by first | (simp only[Value.cells,List.map_cons,List.map_nil];rfl) | rfl) (fun b=>⟨_,(by simp only[AV.put];rfl),?_⟩) | refine AL.st1 hF rfl rfl rfl rfl (by simp only[evO,AV.get];rfl) (by first | exact qlx | exact qly | exact qlz | exact qlA | exact qlB | exact qlC | exact qlD | exact qlE) (by rfl) rfl (by rfl) (by first | (simp;done) | (simp;omega) | omega) (by simp only[List.set];rfl) ?_ | refine AL.stW hF rfl rfl rfl rfl (by simp only[evO,AV.get];rfl) (by first | exact qlx | exact qly | exact qlz | exact qlA | exact qlB | exact qlC | exact qlD | exact qlE) (by rfl) (by rfl) (by rfl) (by first | rfl | simp) (by simp only[List.set];rfl) ?_) | (with_reducible refine Awp.id_ ?_;first | refine Awp.seq ?_ | refine Awp.regionK (by first | (simp only[AV.putO,AV.put];rfl) | rfl) (fun K hK=>?_) | refine Awp.drawE (by first | (simp only[AV.putO,AV.put];rfl) | rfl) mixed rfl (by kernel_rfl) (fun K hK=>?_) | refine Awp.block ?_ | refine Awp.skip ?_ | refine Awp.exit ?_ | refine Awp.ret ?_ | refine Awp.condT rfl ?_ | refine Awp.condF rfl ?_) | refine qpy ?_ | refine qpz ?_ | refine qpA ?_ | refine qkH ?_ | refine qkI ?_ | refine qkJ ?_ | refine qkK rfl ?_ | ((first | ((first | with_reducible refine AL.id_ ?_ | with_reducible refine AE.id_ ?_);(fail_if_success refine W.on rfl ?_);refine W.p rfl rfl (by simp only[AV.put];rfl) (by simp only[AV.put];rfl) (fun hb=>?_) (fun hb=>?_)) | (with_reducible refine Awp.id_ ?_;refine Awp.cond _ rfl (fun hb=>?_) (fun hb=>?_)))<;>(try simp only[z1,z2,z3,z4,z5,z6,z7,z8,y5,y6,y7,y8,z9,x1,x2,x3,x4,x5,x6,x7,x8] at hb;try (exfalso;omega)))))
  refine Awp.loopM [16,17,18,19,20,21,22,23,24,25,26,27,28,29] [5] (fun n vs H=>∃(j:Nat) (X3:Nat→Prop),n+j=(hi+1-lo).toNat∧vs=[.int (lo+j)]∧H=[.blk b 95 [.int hu,.int lo,.int hi],.nodef,.ghost X3 (J (qji ss k+j))]) (hi+1-lo).toNat ⟨0,X',by omega,by simp;rfl,rfl⟩ ?_
  rintro n1 ju1 vs1 H1 ⟨j,X3,hj,rfl,rfl⟩
  (refine Awp.slots (by first | (simp only[putl,mask,AV.put];rfl) | rfl) ?_)
  by_cases hlt2:j<(hi+1-lo).toNat
  ·have hle:lo+j≤hi:=by omega
   have hye:=hYk.out j hlt2
   (repeat' (first | ((first | with_reducible refine AL.id_ ?_ | with_reducible refine AE.id_ ?_);first | refine AL.build0 hF rfl rfl rfl (fun b=>⟨_,(by simp only[AV.put];rfl),?_⟩) | refine W.s rfl rfl (by first | exact AY.bx rfl (by simp only[evO,AV.get];rfl) rfl | exact AY.mkFn rfl (by simp only[List.map_cons,List.map_nil,evO,AV.get];rfl) | exact AY.mkFn1 rfl (by simp only[evO,AV.get];rfl) (by simp only[List.map_cons,List.map_nil,evO,AV.get];rfl) | exact AY.build rfl (by simp only[List.map_cons,List.map_nil,evO,AV.get];rfl) (by simp only[List.map_cons,List.map_nil];repeat (first | exact Places.nil | apply Places.cons)) (by first | (simp only[zip3,qdd,qeK,qbQ,qx,qgT,List.map_cons,List.map_nil,List.length_cons,List.length_nil,List.take_succ_cons,List.take_zero,List.drop_succ_cons,List.drop_zero,List.replicate_succ,List.replicate_zero,List.cons_append,List.nil_append,List.append_nil,List.drop_nil,List.take_nil,List.toList_toArray,Nat.sub_zero,Nat.reduceSub,Nat.reduceAdd,Nat.reduceMul,Nat.zero_mul,Nat.one_mul,Nat.mul_one,Nat.zero_add,Nat.le_refl,Nat.reduceLeDiff,and_self,true_and,and_true,if_true];rfl) | rfl) | exact AY.buildS rfl (by simp only[List.map_cons,List.map_nil,evO,AV.get];rfl) (by first | rfl | decide) (by omega) (by first | (simp only[zip3,qdd,qeK,qbQ,qx,qgT,List.map_cons,List.map_nil,List.length_cons,List.length_nil,List.take_succ_cons,List.take_zero,List.drop_succ_cons,List.drop_zero,List.replicate_succ,List.replicate_zero,List.cons_append,List.nil_append,List.append_nil,List.drop_nil,List.take_nil,List.toList_toArray,Nat.sub_zero,Nat.reduceSub,Nat.reduceAdd,Nat.reduceMul,Nat.zero_mul,Nat.one_mul,Nat.mul_one,Nat.zero_add,Nat.le_refl,Nat.reduceLeDiff,and_self,true_and,and_true,if_true];rfl) | rfl) (by first | (simp only[zip3,qdd,qeK,qbQ,qx,qgT,List.map_cons,List.map_nil,List.length_cons,List.length_nil,List.take_succ_cons,List.take_zero,List.drop_succ_cons,List.drop_zero,List.replicate_succ,List.replicate_zero,List.cons_append,List.nil_append,List.append_nil,List.drop_nil,List.take_nil,List.toList_toArray,Nat.sub_zero,Nat.reduceSub,Nat.reduceAdd,Nat.reduceMul,Nat.zero_mul,Nat.one_mul,Nat.mul_one,Nat.zero_add,Nat.le_refl,Nat.reduceLeDiff,and_self,true_and,and_true,if_true];rfl) | rfl) | exact hEQ rfl rfl rfl | exact Step2.sound (by first | (((first | (apply Step2.a;constructor) | (apply Step2.b;constructor))<;>first | infer_instance | skip)<;>(first | infer_instance | (refine w64c ?_;omega) | (refine qtV ?_;omega) | (refine qrr ?_;omega) | (refine qrs ?_;omega) | (refine qtS ?_;omega) | ((repeat (first | exact .head _ | refine .tail _ ?_));done) | assumption | (simp only[List.drop_succ_cons,List.drop_zero,List.length_map,Nat.zero_add,Nat.mul_one];rfl) | rfl | omega | (simp;done))) | fail) rfl | exact AY.call rfl rfl _ rfl (by fail) | exact AY.slice1 rfl rfl rfl (by rfl) (by first | (simp;done) | fail) | exact AY.callF rfl _ _ rfl _ rfl (by fail) | exact AY.old1k 0 rfl rfl rfl (by first | assumption | rfl) | exact AY.old1k 1 rfl rfl rfl (by first | assumption | rfl) | exact AY.old1k 2 rfl rfl rfl (by first | assumption | rfl) | exact AY.oldNk 0 rfl rfl rfl (by first | omega | (simp;omega)) (by first | assumption | rfl) | exact AY.oldNk 1 rfl rfl rfl (by first | omega | (simp;omega)) (by first | assumption | rfl)) (by simp only[AV.put];rfl) ?_ | (refine AL.nilK (hK _ _ ?_);clear hK K) | (refine AE.nil (hK _ ?_);clear hK K) | refine W.k rfl rfl (by simp only[AV.put];rfl) ?_ | refine AL.unguardS rfl rfl ?_ | refine AL.al hF rfl rfl rfl (by first | (simp only[Value.cells,List.map_cons,List.map_nil];rfl) | rfl) (fun b=>⟨_,(by simp only[AV.put];rfl),?_⟩) | refine AL.st1 hF rfl rfl rfl rfl (by simp only[evO,AV.get];rfl) (by first | exact qlx | exact qly | exact qlz | exact qlA | exact qlB | exact qlC | exact qlD | exact qlE) (by rfl) rfl (by rfl) (by first | (simp;done) | (simp;omega) | omega) (by simp only[List.set];rfl) ?_ | refine AL.stW hF rfl rfl rfl rfl (by simp only[evO,AV.get];rfl) (by first | exact qlx | exact qly | exact qlz | exact qlA | exact qlB | exact qlC | exact qlD | exact qlE) (by rfl) (by rfl) (by rfl) (by first | rfl | simp) (by simp only[List.set];rfl) ?_) | (with_reducible refine Awp.id_ ?_;first | refine Awp.seq ?_ | refine Awp.regionK (by first | (simp only[AV.putO,AV.put];rfl) | rfl) (fun K hK=>?_) | refine Awp.drawE (by first | (simp only[AV.putO,AV.put];rfl) | rfl) mixed rfl (by kernel_rfl) (fun K hK=>?_) | refine Awp.block ?_ | refine Awp.skip ?_ | refine Awp.exit ?_ | refine Awp.ret ?_ | refine Awp.condT rfl ?_ | refine Awp.condF rfl ?_) | refine qpy ?_ | refine qpz ?_ | refine qpA ?_ | refine qkH ?_ | refine qkI ?_ | refine qkJ ?_ | refine qkK rfl ?_ | ((first | ((first | with_reducible refine AL.id_ ?_ | with_reducible refine AE.id_ ?_);(fail_if_success refine W.on rfl ?_);refine W.p rfl rfl (by simp only[AV.put];rfl) (by simp only[AV.put];rfl) (fun hb=>?_) (fun hb=>?_)) | (with_reducible refine Awp.id_ ?_;refine Awp.cond _ rfl (fun hb=>?_) (fun hb=>?_)))<;>(try simp only[z1,z2,z3,z4,z5,z6,z7,z8,y5,y6,y7,y8,z9,x1,x2,x3,x4,x5,x6,x7,x8] at hb;try (exfalso;omega)))))
   have hgho:∀i e,([HE.blk b 95 [.int hu,.int lo,.int hi],.nodef,.ghost X3 (J (qji ss k+j))])[i]?=some e→e.isGhost→i=2:=fun i e h1 h2=>by
    match i,h1 with
    | 0,h1=>cases h1;exact h2.elim
    | 1,h1=>cases h1;exact h2.elim
    | 2,_=>rfl
   refine AL.yield 2 rfl rfl rfl rfl _ rfl rfl hgho (by simp) (fun b hA=>hT b fun h=>(hA.1 h).1) hye (hcJ _) hcx (fun X4=>?_) (fun X4=>?_)
   ·refine AL.norm (by simp only[AV.put];rfl) rfl ?_
    (repeat' (first | ((first | with_reducible refine AL.id_ ?_ | with_reducible refine AE.id_ ?_);first | refine AL.build0 hF rfl rfl rfl (fun b=>⟨_,(by simp only[AV.put];rfl),?_⟩) | refine W.s rfl rfl (by first | exact AY.bx rfl (by simp only[evO,AV.get];rfl) rfl | exact AY.mkFn rfl (by simp only[List.map_cons,List.map_nil,evO,AV.get];rfl) | exact AY.mkFn1 rfl (by simp only[evO,AV.get];rfl) (by simp only[List.map_cons,List.map_nil,evO,AV.get];rfl) | exact AY.build rfl (by simp only[List.map_cons,List.map_nil,evO,AV.get];rfl) (by simp only[List.map_cons,List.map_nil];repeat (first | exact Places.nil | apply Places.cons)) (by first | (simp only[zip3,qdd,qeK,qbQ,qx,qgT,List.map_cons,List.map_nil,List.length_cons,List.length_nil,List.take_succ_cons,List.take_zero,List.drop_succ_cons,List.drop_zero,List.replicate_succ,List.replicate_zero,List.cons_append,List.nil_append,List.append_nil,List.drop_nil,List.take_nil,List.toList_toArray,Nat.sub_zero,Nat.reduceSub,Nat.reduceAdd,Nat.reduceMul,Nat.zero_mul,Nat.one_mul,Nat.mul_one,Nat.zero_add,Nat.le_refl,Nat.reduceLeDiff,and_self,true_and,and_true,if_true];rfl) | rfl) | exact AY.buildS rfl (by simp only[List.map_cons,List.map_nil,evO,AV.get];rfl) (by first | rfl | decide) (by omega) (by first | (simp only[zip3,qdd,qeK,qbQ,qx,qgT,List.map_cons,List.map_nil,List.length_cons,List.length_nil,List.take_succ_cons,List.take_zero,List.drop_succ_cons,List.drop_zero,List.replicate_succ,List.replicate_zero,List.cons_append,List.nil_append,List.append_nil,List.drop_nil,List.take_nil,List.toList_toArray,Nat.sub_zero,Nat.reduceSub,Nat.reduceAdd,Nat.reduceMul,Nat.zero_mul,Nat.one_mul,Nat.mul_one,Nat.zero_add,Nat.le_refl,Nat.reduceLeDiff,and_self,true_and,and_true,if_true];rfl) | rfl) (by first | (simp only[zip3,qdd,qeK,qbQ,qx,qgT,List.map_cons,List.map_nil,List.length_cons,List.length_nil,List.take_succ_cons,List.take_zero,List.drop_succ_cons,List.drop_zero,List.replicate_succ,List.replicate_zero,List.cons_append,List.nil_append,List.append_nil,List.drop_nil,List.take_nil,List.toList_toArray,Nat.sub_zero,Nat.reduceSub,Nat.reduceAdd,Nat.reduceMul,Nat.zero_mul,Nat.one_mul,Nat.mul_one,Nat.zero_add,Nat.le_refl,Nat.reduceLeDiff,and_self,true_and,and_true,if_true];rfl) | rfl) | exact hEQ rfl rfl rfl | exact Step2.sound (by first | (((first | (apply Step2.a;constructor) | (apply Step2.b;constructor))<;>first | infer_instance | skip)<;>(first | infer_instance | (refine w64c ?_;omega) | (refine qtV ?_;omega) | (refine qrr ?_;omega) | (refine qrs ?_;omega) | (refine qtS ?_;omega) | ((repeat (first | exact .head _ | refine .tail _ ?_));done) | assumption | (simp only[List.drop_succ_cons,List.drop_zero,List.length_map,Nat.zero_add,Nat.mul_one];rfl) | rfl | omega | (simp;done))) | fail) rfl | exact AY.call rfl rfl _ rfl (by fail) | exact AY.slice1 rfl rfl rfl (by rfl) (by first | (simp;done) | fail) | exact AY.callF rfl _ _ rfl _ rfl (by fail) | exact AY.old1k 0 rfl rfl rfl (by first | assumption | rfl) | exact AY.old1k 1 rfl rfl rfl (by first | assumption | rfl) | exact AY.old1k 2 rfl rfl rfl (by first | assumption | rfl) | exact AY.oldNk 0 rfl rfl rfl (by first | omega | (simp;omega)) (by first | assumption | rfl) | exact AY.oldNk 1 rfl rfl rfl (by first | omega | (simp;omega)) (by first | assumption | rfl)) (by simp only[AV.put];rfl) ?_ | (refine AL.nilK (hK _ _ ?_);clear hK K) | (refine AE.nil (hK _ ?_);clear hK K) | refine W.k rfl rfl (by simp only[AV.put];rfl) ?_ | refine AL.unguardS rfl rfl ?_ | refine AL.al hF rfl rfl rfl (by first | (simp only[Value.cells,List.map_cons,List.map_nil];rfl) | rfl) (fun b=>⟨_,(by simp only[AV.put];rfl),?_⟩) | refine AL.st1 hF rfl rfl rfl rfl (by simp only[evO,AV.get];rfl) (by first | exact qlx | exact qly | exact qlz | exact qlA | exact qlB | exact qlC | exact qlD | exact qlE) (by rfl) rfl (by rfl) (by first | (simp;done) | (simp;omega) | omega) (by simp only[List.set];rfl) ?_ | refine AL.stW hF rfl rfl rfl rfl (by simp only[evO,AV.get];rfl) (by first | exact qlx | exact qly | exact qlz | exact qlA | exact qlB | exact qlC | exact qlD | exact qlE) (by rfl) (by rfl) (by rfl) (by first | rfl | simp) (by simp only[List.set];rfl) ?_) | (with_reducible refine Awp.id_ ?_;first | refine Awp.seq ?_ | refine Awp.regionK (by first | (simp only[AV.putO,AV.put];rfl) | rfl) (fun K hK=>?_) | refine Awp.drawE (by first | (simp only[AV.putO,AV.put];rfl) | rfl) mixed rfl (by kernel_rfl) (fun K hK=>?_) | refine Awp.block ?_ | refine Awp.skip ?_ | refine Awp.exit ?_ | refine Awp.ret ?_ | refine Awp.condT rfl ?_ | refine Awp.condF rfl ?_) | refine qpy ?_ | refine qpz ?_ | refine qpA ?_ | refine qkH ?_ | refine qkI ?_ | refine qkJ ?_ | refine qkK rfl ?_ | ((first | ((first | with_reducible refine AL.id_ ?_ | with_reducible refine AE.id_ ?_);(fail_if_success refine W.on rfl ?_);refine W.p rfl rfl (by simp only[AV.put];rfl) (by simp only[AV.put];rfl) (fun hb=>?_) (fun hb=>?_)) | (with_reducible refine Awp.id_ ?_;refine Awp.cond _ rfl (fun hb=>?_) (fun hb=>?_)))<;>(try simp only[z1,z2,z3,z4,z5,z6,z7,z8,y5,y6,y7,y8,z9,x1,x2,x3,x4,x5,x6,x7,x8] at hb;try (exfalso;omega)))))
    (refine qGQ (n1-1) (by first | (simp only[AV.putO,AV.put];rfl) | rfl) (by omega) ?_ (by simp only[List.map,AV.get,mask,putl,AV.put]))
    exact ⟨j+1,X4,by omega,qGJ (by omega),rfl⟩
   ·refine AL.norm (by simp only[AV.put];rfl) rfl ?_
    (repeat' (first | ((first | with_reducible refine AL.id_ ?_ | with_reducible refine AE.id_ ?_);first | refine AL.build0 hF rfl rfl rfl (fun b=>⟨_,(by simp only[AV.put];rfl),?_⟩) | refine W.s rfl rfl (by first | exact AY.bx rfl (by simp only[evO,AV.get];rfl) rfl | exact AY.mkFn rfl (by simp only[List.map_cons,List.map_nil,evO,AV.get];rfl) | exact AY.mkFn1 rfl (by simp only[evO,AV.get];rfl) (by simp only[List.map_cons,List.map_nil,evO,AV.get];rfl) | exact AY.build rfl (by simp only[List.map_cons,List.map_nil,evO,AV.get];rfl) (by simp only[List.map_cons,List.map_nil];repeat (first | exact Places.nil | apply Places.cons)) (by first | (simp only[zip3,qdd,qeK,qbQ,qx,qgT,List.map_cons,List.map_nil,List.length_cons,List.length_nil,List.take_succ_cons,List.take_zero,List.drop_succ_cons,List.drop_zero,List.replicate_succ,List.replicate_zero,List.cons_append,List.nil_append,List.append_nil,List.drop_nil,List.take_nil,List.toList_toArray,Nat.sub_zero,Nat.reduceSub,Nat.reduceAdd,Nat.reduceMul,Nat.zero_mul,Nat.one_mul,Nat.mul_one,Nat.zero_add,Nat.le_refl,Nat.reduceLeDiff,and_self,true_and,and_true,if_true];rfl) | rfl) | exact AY.buildS rfl (by simp only[List.map_cons,List.map_nil,evO,AV.get];rfl) (by first | rfl | decide) (by omega) (by first | (simp only[zip3,qdd,qeK,qbQ,qx,qgT,List.map_cons,List.map_nil,List.length_cons,List.length_nil,List.take_succ_cons,List.take_zero,List.drop_succ_cons,List.drop_zero,List.replicate_succ,List.replicate_zero,List.cons_append,List.nil_append,List.append_nil,List.drop_nil,List.take_nil,List.toList_toArray,Nat.sub_zero,Nat.reduceSub,Nat.reduceAdd,Nat.reduceMul,Nat.zero_mul,Nat.one_mul,Nat.mul_one,Nat.zero_add,Nat.le_refl,Nat.reduceLeDiff,and_self,true_and,and_true,if_true];rfl) | rfl) (by first | (simp only[zip3,qdd,qeK,qbQ,qx,qgT,List.map_cons,List.map_nil,List.length_cons,List.length_nil,List.take_succ_cons,List.take_zero,List.drop_succ_cons,List.drop_zero,List.replicate_succ,List.replicate_zero,List.cons_append,List.nil_append,List.append_nil,List.drop_nil,List.take_nil,List.toList_toArray,Nat.sub_zero,Nat.reduceSub,Nat.reduceAdd,Nat.reduceMul,Nat.zero_mul,Nat.one_mul,Nat.mul_one,Nat.zero_add,Nat.le_refl,Nat.reduceLeDiff,and_self,true_and,and_true,if_true];rfl) | rfl) | exact hEQ rfl rfl rfl | exact Step2.sound (by first | (((first | (apply Step2.a;constructor) | (apply Step2.b;constructor))<;>first | infer_instance | skip)<;>(first | infer_instance | (refine w64c ?_;omega) | (refine qtV ?_;omega) | (refine qrr ?_;omega) | (refine qrs ?_;omega) | (refine qtS ?_;omega) | ((repeat (first | exact .head _ | refine .tail _ ?_));done) | assumption | (simp only[List.drop_succ_cons,List.drop_zero,List.length_map,Nat.zero_add,Nat.mul_one];rfl) | rfl | omega | (simp;done))) | fail) rfl | exact AY.call rfl rfl _ rfl (by fail) | exact AY.slice1 rfl rfl rfl (by rfl) (by first | (simp;done) | fail) | exact AY.callF rfl _ _ rfl _ rfl (by fail) | exact AY.old1k 0 rfl rfl rfl (by first | assumption | rfl) | exact AY.old1k 1 rfl rfl rfl (by first | assumption | rfl) | exact AY.old1k 2 rfl rfl rfl (by first | assumption | rfl) | exact AY.oldNk 0 rfl rfl rfl (by first | omega | (simp;omega)) (by first | assumption | rfl) | exact AY.oldNk 1 rfl rfl rfl (by first | omega | (simp;omega)) (by first | assumption | rfl)) (by simp only[AV.put];rfl) ?_ | (refine AL.nilK (hK _ _ ?_);clear hK K) | (refine AE.nil (hK _ ?_);clear hK K) | refine W.k rfl rfl (by simp only[AV.put];rfl) ?_ | refine AL.unguardS rfl rfl ?_ | refine AL.al hF rfl rfl rfl (by first | (simp only[Value.cells,List.map_cons,List.map_nil];rfl) | rfl) (fun b=>⟨_,(by simp only[AV.put];rfl),?_⟩) | refine AL.st1 hF rfl rfl rfl rfl (by simp only[evO,AV.get];rfl) (by first | exact qlx | exact qly | exact qlz | exact qlA | exact qlB | exact qlC | exact qlD | exact qlE) (by rfl) rfl (by rfl) (by first | (simp;done) | (simp;omega) | omega) (by simp only[List.set];rfl) ?_ | refine AL.stW hF rfl rfl rfl rfl (by simp only[evO,AV.get];rfl) (by first | exact qlx | exact qly | exact qlz | exact qlA | exact qlB | exact qlC | exact qlD | exact qlE) (by rfl) (by rfl) (by rfl) (by first | rfl | simp) (by simp only[List.set];rfl) ?_) | (with_reducible refine Awp.id_ ?_;first | refine Awp.seq ?_ | refine Awp.regionK (by first | (simp only[AV.putO,AV.put];rfl) | rfl) (fun K hK=>?_) | refine Awp.drawE (by first | (simp only[AV.putO,AV.put];rfl) | rfl) mixed rfl (by kernel_rfl) (fun K hK=>?_) | refine Awp.block ?_ | refine Awp.skip ?_ | refine Awp.exit ?_ | refine Awp.ret ?_ | refine Awp.condT rfl ?_ | refine Awp.condF rfl ?_) | refine qpy ?_ | refine qpz ?_ | refine qpA ?_ | refine qkH ?_ | refine qkI ?_ | refine qkJ ?_ | refine qkK rfl ?_ | ((first | ((first | with_reducible refine AL.id_ ?_ | with_reducible refine AE.id_ ?_);(fail_if_success refine W.on rfl ?_);refine W.p rfl rfl (by simp only[AV.put];rfl) (by simp only[AV.put];rfl) (fun hb=>?_) (fun hb=>?_)) | (with_reducible refine Awp.id_ ?_;refine Awp.cond _ rfl (fun hb=>?_) (fun hb=>?_)))<;>(try simp only[z1,z2,z3,z4,z5,z6,z7,z8,y5,y6,y7,y8,z9,x1,x2,x3,x4,x5,x6,x7,x8] at hb;try (exfalso;omega)))))
    exact qDn rfl ⟨X4,.inr (List.mem_of_getElem? (i:=2) rfl)⟩
  ·have hle:¬(lo+j≤hi):=by omega
   (repeat' (first | ((first | with_reducible refine AL.id_ ?_ | with_reducible refine AE.id_ ?_);first | refine AL.build0 hF rfl rfl rfl (fun b=>⟨_,(by simp only[AV.put];rfl),?_⟩) | refine W.s rfl rfl (by first | exact AY.bx rfl (by simp only[evO,AV.get];rfl) rfl | exact AY.mkFn rfl (by simp only[List.map_cons,List.map_nil,evO,AV.get];rfl) | exact AY.mkFn1 rfl (by simp only[evO,AV.get];rfl) (by simp only[List.map_cons,List.map_nil,evO,AV.get];rfl) | exact hEQ rfl rfl rfl | exact Step2.sound (by first | (((first | (apply Step2.a;constructor) | (apply Step2.b;constructor))<;>first | infer_instance | skip)<;>(first | infer_instance | (refine w64c ?_;omega) | (refine qtV ?_;omega) | (refine qrr ?_;omega) | (refine qrs ?_;omega) | (refine qtS ?_;omega) | ((repeat (first | exact .head _ | refine .tail _ ?_));done) | assumption | (simp only[List.drop_succ_cons,List.drop_zero,List.length_map,Nat.zero_add,Nat.mul_one];rfl) | rfl | omega | (simp;done))) | fail) rfl | exact AY.call rfl rfl _ rfl (by fail) | exact AY.slice1 rfl rfl rfl (by rfl) (by first | (simp;done) | fail) | exact AY.callF rfl _ _ rfl _ rfl (by fail) | exact AY.old1k 0 rfl rfl rfl (by first | assumption | rfl) | exact AY.old1k 1 rfl rfl rfl (by first | assumption | rfl) | exact AY.old1k 2 rfl rfl rfl (by first | assumption | rfl) | exact AY.oldNk 0 rfl rfl rfl (by first | omega | (simp;omega)) (by first | assumption | rfl) | exact AY.oldNk 1 rfl rfl rfl (by first | omega | (simp;omega)) (by first | assumption | rfl)) (by simp only[AV.put];rfl) ?_ | (refine AL.nilK (hK _ _ ?_);clear hK K) | (refine AE.nil (hK _ ?_);clear hK K) | refine W.k rfl rfl (by simp only[AV.put];rfl) ?_ | refine AL.unguardS rfl rfl ?_ | refine AL.al hF rfl rfl rfl (by first | (simp only[Value.cells,List.map_cons,List.map_nil];rfl) | rfl) (fun b=>⟨_,(by simp only[AV.put];rfl),?_⟩) | refine AL.st1 hF rfl rfl rfl rfl (by simp only[evO,AV.get];rfl) (by first | exact qlx | exact qly | exact qlz | exact qlA | exact qlB | exact qlC | exact qlD | exact qlE) (by rfl) rfl (by rfl) (by first | (simp;done) | (simp;omega) | omega) (by simp only[List.set];rfl) ?_ | refine AL.stW hF rfl rfl rfl rfl (by simp only[evO,AV.get];rfl) (by first | exact qlx | exact qly | exact qlz | exact qlA | exact qlB | exact qlC | exact qlD | exact qlE) (by rfl) (by rfl) (by rfl) (by first | rfl | simp) (by simp only[List.set];rfl) ?_) | (with_reducible refine Awp.id_ ?_;first | refine Awp.seq ?_ | refine Awp.regionK (by first | (simp only[AV.putO,AV.put];rfl) | rfl) (fun K hK=>?_) | refine Awp.drawE (by first | (simp only[AV.putO,AV.put];rfl) | rfl) mixed rfl (by kernel_rfl) (fun K hK=>?_) | refine Awp.block ?_ | refine Awp.skip ?_ | refine Awp.exit ?_ | refine Awp.ret ?_ | refine Awp.condT rfl ?_ | refine Awp.condF rfl ?_) | refine qpy ?_ | refine qpz ?_ | refine qpA ?_ | refine qkH ?_ | refine qkI ?_ | refine qkJ ?_ | refine qkK rfl ?_ | ((first | ((first | with_reducible refine AL.id_ ?_ | with_reducible refine AE.id_ ?_);(fail_if_success refine W.on rfl ?_);refine W.p rfl rfl (by simp only[AV.put];rfl) (by simp only[AV.put];rfl) (fun hb=>?_) (fun hb=>?_)) | (with_reducible refine Awp.id_ ?_;refine Awp.cond _ rfl (fun hb=>?_) (fun hb=>?_)))<;>(try simp only[z1,z2,z3,z4,z5,z6,z7,z8,y5,y6,y7,y8,z9,x1,x2,x3,x4,x5,x6,x7,x8] at hb;try (exfalso;omega)))))
   (refine qEX (n-1) (List.sublist_cons_self _ _) (by first | (simp only[AV.putO,AV.put];rfl) | rfl) (by omega) ?_ (by simp only[List.map,AV.get,mask,putl,AV.put]))
   exact ⟨k+1,X3,by omega,qGJ (by omega),by rw[hNk,show (hi+1-lo).toNat=j by omega]⟩
 ·(repeat' (first | ((first | with_reducible refine AL.id_ ?_ | with_reducible refine AE.id_ ?_);first | refine AL.build0 hF rfl rfl rfl (fun b=>⟨_,(by simp only[AV.put];rfl),?_⟩) | refine W.s rfl rfl (by first | exact AY.bx rfl (by simp only[evO,AV.get];rfl) rfl | exact AY.mkFn rfl (by simp only[List.map_cons,List.map_nil,evO,AV.get];rfl) | exact AY.mkFn1 rfl (by simp only[evO,AV.get];rfl) (by simp only[List.map_cons,List.map_nil,evO,AV.get];rfl) | exact hEQ rfl rfl rfl | exact Step2.sound (by first | (((first | (apply Step2.a;constructor) | (apply Step2.b;constructor))<;>first | infer_instance | skip)<;>(first | infer_instance | (refine w64c ?_;omega) | (refine qtV ?_;omega) | (refine qrr ?_;omega) | (refine qrs ?_;omega) | (refine qtS ?_;omega) | ((repeat (first | exact .head _ | refine .tail _ ?_));done) | assumption | (simp only[List.drop_succ_cons,List.drop_zero,List.length_map,Nat.zero_add,Nat.mul_one];rfl) | rfl | omega | (simp;done))) | fail) rfl | exact AY.call rfl rfl _ rfl (by fail) | exact AY.slice1 rfl rfl rfl (by rfl) (by first | (simp;done) | fail) | exact AY.callF rfl _ _ rfl _ rfl (by fail) | exact AY.old1k 0 rfl rfl rfl (by first | assumption | rfl) | exact AY.old1k 1 rfl rfl rfl (by first | assumption | rfl) | exact AY.old1k 2 rfl rfl rfl (by first | assumption | rfl) | exact AY.oldNk 0 rfl rfl rfl (by first | omega | (simp;omega)) (by first | assumption | rfl) | exact AY.oldNk 1 rfl rfl rfl (by first | omega | (simp;omega)) (by first | assumption | rfl)) (by simp only[AV.put];rfl) ?_ | (refine AL.nilK (hK _ _ ?_);clear hK K) | (refine AE.nil (hK _ ?_);clear hK K) | refine W.k rfl rfl (by simp only[AV.put];rfl) ?_ | refine AL.unguardS rfl rfl ?_ | refine AL.al hF rfl rfl rfl (by first | (simp only[Value.cells,List.map_cons,List.map_nil];rfl) | rfl) (fun b=>⟨_,(by simp only[AV.put];rfl),?_⟩) | refine AL.st1 hF rfl rfl rfl rfl (by simp only[evO,AV.get];rfl) (by first | exact qlx | exact qly | exact qlz | exact qlA | exact qlB | exact qlC | exact qlD | exact qlE) (by rfl) rfl (by rfl) (by first | (simp;done) | (simp;omega) | omega) (by simp only[List.set];rfl) ?_ | refine AL.stW hF rfl rfl rfl rfl (by simp only[evO,AV.get];rfl) (by first | exact qlx | exact qly | exact qlz | exact qlA | exact qlB | exact qlC | exact qlD | exact qlE) (by rfl) (by rfl) (by rfl) (by first | rfl | simp) (by simp only[List.set];rfl) ?_) | (with_reducible refine Awp.id_ ?_;first | refine Awp.seq ?_ | refine Awp.regionK (by first | (simp only[AV.putO,AV.put];rfl) | rfl) (fun K hK=>?_) | refine Awp.drawE (by first | (simp only[AV.putO,AV.put];rfl) | rfl) mixed rfl (by kernel_rfl) (fun K hK=>?_) | refine Awp.block ?_ | refine Awp.skip ?_ | refine Awp.exit ?_ | refine Awp.ret ?_ | refine Awp.condT rfl ?_ | refine Awp.condF rfl ?_) | refine qpy ?_ | refine qpz ?_ | refine qpA ?_ | refine qkH ?_ | refine qkI ?_ | refine qkJ ?_ | refine qkK rfl ?_ | ((first | ((first | with_reducible refine AL.id_ ?_ | with_reducible refine AE.id_ ?_);(fail_if_success refine W.on rfl ?_);refine W.p rfl rfl (by simp only[AV.put];rfl) (by simp only[AV.put];rfl) (fun hb=>?_) (fun hb=>?_)) | (with_reducible refine Awp.id_ ?_;refine Awp.cond _ rfl (fun hb=>?_) (fun hb=>?_)))<;>(try simp only[z1,z2,z3,z4,z5,z6,z7,z8,y5,y6,y7,y8,z9,x1,x2,x3,x4,x5,x6,x7,x8] at hb;try (exfalso;omega)))))
  exact qEZ rfl ⟨X',.inl (by rw[show ss.length=k by omega];exact List.mem_of_getElem? (i:=1) rfl)⟩
def qzB:Itr Tryz.prog:=⟨183,[T91],[T158],fun x=>qrF x.1.2.2.2.2,fun x l h=>qFM x l h⟩
section
def qqH(n:Nat):CL Tryz.prog:=⟨[],[],0,fun _=>false⟩
def quO(n:Nat):Nat→St→PT (DEx×St):=fun _ _=>.fail
theorem qAS(n:Nat):qbg (qqH n).c (qv Tryz.f152) 0=[]:=by kernel_rfl
theorem qAT:Tryz.f152.body=some (qv Tryz.f152):=by kernel_rfl
abbrev qrG:List Ar:=[.d T91]
abbrev qoO:List Ty:=[T91]
def qvJ(n:Nat)(x:qfu qrG):Option (qR qoO):=(qfO tab (qqH n) (quO n) (qv Tryz.f152) 0 (qla qrG 4 x)).run (qGI 2 183 qoO)
def qvK(n:Nat):Ct Tryz.prog:=⟨152,qrG,.fb 183 qoO,qvJ n,fun _ _ h=>qHE (B:=tab) (cs:=qqH n) (lo:=quO n) (i:=2) (g:=183) (caps:=qoO) Tryz.func152 (by kernel_rfl) qAT (by kernel_rfl) (qkN (qAS n) all_nil) h⟩
def qtw(n:Nat):CL Tryz.prog:=⟨[],[],0,nof⟩
def qoP(n:Nat):Cw Tryz.prog:=mkW tab (qtw n) [] Tryz.func182 [.v (.t 1) T158,.obj (.t 0) true 129 5,.v (.c 0 0) T126,.row (.c 0 2) true T91 91,.row (.c 0 3) true T91 91,.mpi (.c 0 4) true T158 T3] 2 [[.v (.t 0) T3,.obj (.t 1) true 129 5,.v (.c 0 0) T126,.row (.c 0 2) true T91 91,.row (.c 0 3) true T91 91,.mpi (.c 0 4) true T158 T3]] (by kernel_rfl)
def qnl(n:Nat):CL Tryz.prog:=⟨[qvK n],[qoP n],0,nof⟩
def qnm(n:Nat):LK Tryz.prog false:=mkG tab (qnl n) [] Tryz.f151 [true,false,true,false] 0 9 [10] qzB [.obj (.t 0) true 129 5,.v (.c 0 0) T126,.row (.c 0 2) true T91 91,.row (.c 0 3) true T91 91,.mpi (.c 0 4) true T158 T3,.obj (.t 2) false 121 1,.pal (.c 4 0) 0 0,.obj (.t 3) false 91 5,.v (.c 5 0) T91,.obj (.t 4) false 158 2,.v (.c 6 0) T158,.obj (.t 5) false 3 1,.v (.c 7 0) T3] [(.ret,[.obj (.t 0) true 129 5,.v (.c 0 0) T126,.row (.c 0 2) true T91 91,.row (.c 0 3) true T91 91,.mpi (.c 0 4) true T158 T3,.obj (.t 4) false 158 2,.v (.c 4 0) T158,.obj (.t 5) false 3 1,.v (.c 5 0) T3])] (by kernel_rfl)
def qoa(n:Nat):Cw Tryz.prog:=mkW tab (qnl n) [qnm n] Tryz.func151 [.v (.t 1) T91,.obj (.t 0) true 129 5,.v (.c 0 0) T126,.row (.c 0 2) true T91 91,.row (.c 0 3) true T91 91,.mpi (.c 0 4) true T158 T3] 2 [[.v (.t 0) T158,.v (.t 1) T3,.obj (.t 2) true 129 5,.v (.c 0 0) T126,.row (.c 0 2) true T91 91,.row (.c 0 3) true T91 91,.mpi (.c 0 4) true T158 T3]] (by kernel_rfl)
def qls(n:Nat):CL Tryz.prog:=⟨[qvK n],[qoa n],0,nof⟩
def qpp(n:Nat):LK Tryz.prog false:=mkG tab (qls n) [] Tryz.f120 [true,true,false,true,false,false,true,true,false,false,true,true,true,true,true,false] 1 60 [61] qzB [.nilf (.t 2),.v (.t 17) T35,.v (.t 18) T3,.v (.t 19) T3,.obj (.t 7) false 121 1,.obj (.c 0 0) false 129 5,.v (.c 1 0) T126,.row (.c 1 2) false T91 91,.row (.c 1 3) false T91 91,.mpi (.c 1 4) false T158 T3,.obj (.t 9) false 91 5,.v (.c 5 0) T91] [] (by kernel_rfl)
def qpq(n:Nat):LK Tryz.prog false:=mkL tab (qls n) [qpp n] Tryz.f120 [true,true,false,true,false,false] 0 n [.nilf (.t 2),.v (.t 17) T35,.v (.t 18) T3,.v (.t 19) T3,.obj (.t 7) false 121 1,.obj (.c 0 0) false 129 5,.v (.c 1 0) T126,.row (.c 1 2) false T91 91,.row (.c 1 3) false T91 91,.mpi (.c 1 4) false T158 T3] [(.exit 0,[.obj (.t 7) false 121 1,.obj (.c 0 0) false 129 5,.v (.c 1 0) T126,.row (.c 1 2) false T91 91,.row (.c 1 3) false T91 91,.mpi (.c 1 4) false T158 T3])] (by kernel_rfl)
def qqi(n:Nat):Cw Tryz.prog:=mkW tab (qls n) [qpq n] Tryz.func120 [.v (.t 0) T126,.v (.t 1) T35,.nilf (.t 2)] 3 [[.obj (.t 0) false 129 5,.v (.c 0 0) T126,.row (.c 0 2) false T91 91,.row (.c 0 3) false T91 91,.mpi (.c 0 4) false T158 T3]] (by kernel_rfl)
def qzT(n:Nat):CL Tryz.prog:=⟨[],[qnM n,qe9 n,qlc n,qdf n,qdg n],1,nof⟩
def qvL(n:Nat):Ct Tryz.prog:=mkC tab (qzT n) [] Tryz.func121 [.d T35] [T35] (by kernel_rfl)
def qx5(n:Nat):CL Tryz.prog:=⟨[qnK n,qmi n],[],0,nof⟩
def qpP(n:Nat):Cw Tryz.prog:=mkW tab (qx5 n) [] Tryz.func117 [.v (.t 0) T158,.obj (.t 1) true 126 2,.v (.c 0 0) T126] 2 [[.v (.t 0) T4,.obj (.t 1) true 126 2,.v (.c 0 0) T126]] (by kernel_rfl)
def qfG(n:Nat):CL Tryz.prog:=⟨[],[qpP n],0,nof⟩
def qfH(n:Nat):LK Tryz.prog false:=mkL tab (qfG n) [] Tryz.f150 [true,false,true,false,false] 0 n [.v (.t 0) T155,.v (.t 7) T3,.v (.t 8) T3,.fnc (.t 1) 117 [.box true 126 2],.v (.c 0 0) T126] [(.exit 0,[.fnc (.t 1) 117 [.box true 126 2],.v (.c 0 0) T126]),(.ret,[.v (.t 4) T3,.fnc (.t 1) 117 [.box true 126 2],.v (.c 0 0) T126])] (by kernel_rfl)
def qfS(n:Nat):Cw Tryz.prog:=mkW tab (qfG n) [qfH n] Tryz.func150 [.v (.t 0) T155,.fnc (.t 1) 117 [.box true 126 2],.v (.c 0 0) T126] 2 [[.v (.t 0) T3,.obj (.t 1) true 126 2,.v (.c 0 0) T126]] (by kernel_rfl)
def qjy(n:Nat):CL Tryz.prog:=⟨[],[qpP n,qfS n],0,nof⟩
def qfn(n:Nat):Cw Tryz.prog:=mkW tab (qjy n) [] Tryz.func116 [.v (.t 0) T155,.fnc (.t 1) 117 [.box true 126 2],.v (.c 0 0) T126] 2 [[.v (.t 0) T4,.obj (.t 1) true 126 2,.v (.c 0 0) T126]] (by kernel_rfl)
def qzU(n:Nat):CL Tryz.prog:=⟨[qrE n,qvL n],[qfn n,qqi n],4,nof⟩
def qvM(n:Nat):Cw Tryz.prog:=mkW tab (qzU n) [] Tryz.func77 [.v (.t 0) T34,.v (.t 1) T35,.v (.t 2) T155] 3 [[.v (.t 1) T24,.obj (.t 0) false 129 5,.v (.c 0 0) T126,.row (.c 0 2) false T91 91,.row (.c 0 3) false T91 91,.mpi (.c 0 4) false T158 T3],[.nilp (.t 0),.v (.t 1) T24]] (by kernel_rfl)
def qxf(n:Nat):CL Tryz.prog:=⟨[],[qvM n,qwN n,qqh n],4,nof⟩
def qsH(n:Nat):Ct Tryz.prog:=mkC tab (qxf n) [] Tryz.func36 [.d T34,.d T35] [T22,T24] (by kernel_rfl)
end
section
end
end
end Go.Proofs.YtlmicgmhallkkaaGreatDoor
