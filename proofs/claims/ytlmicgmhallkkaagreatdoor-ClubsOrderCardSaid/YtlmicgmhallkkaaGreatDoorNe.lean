/- Texts DnA, DnB, DnC, DnD, DnF, DnG, DnH, DnI, DnE, DnJ in one. -/
import Derived.Test.YtlmicgmhallkkaaGreatDoorDnT
import Derived.Test.YtlmicgmhallkkaaGreatDoorNd
import Derived.Test.YtlmicgmhallkkaaGreatDoorKc
/- Printed: what functions of the program compute. -/
set_option linter.constructorNameAsVariable false
set_option linter.unusedSimpArgs false
set_option linter.unusedVariables false
set_option linter.unusedSectionVars false
namespace Go.Proofs.YtlmicgmhallkkaaGreatDoor
open Go Go.Proofs Go.RowKit
set_option maxRecDepth 20000
noncomputable section
section
def qsr(n:Nat):CL Tryz.prog:=⟨[],[],0,nof⟩
def qhE(n:Nat):Ct Tryz.prog:=mkC tab (qsr n) [] Tryz.func147 [.d T3,.d T3,.d T3] [T4] (by kernel_rfl)
def qmP(n:Nat):CL Tryz.prog:=⟨[qhE n],[],0,nof⟩
def qmQ(n:Nat):LK Tryz.prog false:=mkL tab (qmP n) [] Tryz.f113 [true,false,true,false,false] 0 n [.v (.t 3) T3,.obj (.t 1) false 34 2,.v (.c 0 0) T34] [(.exit 0,[.obj (.t 1) false 34 2,.v (.c 0 0) T34]),(.ret,[.v (.t 2) T4])] (by kernel_rfl)
def qm4(n:Nat):Ct Tryz.prog:=mkC tab (qmP n) [qmQ n] Tryz.func113 [.d T34] [T4] (by kernel_rfl)
def qlM(n:Nat):CL Tryz.prog:=⟨[qhE n],[],0,nof⟩
def qlN(n:Nat):LK Tryz.prog false:=mkL tab (qlM n) [] Tryz.f148 [true,true,true,false,true,false,false] 0 n [.v (.t 5) T3,.v (.t 6) T3,.obj (.t 2) false 34 2,.v (.c 0 0) T34,.obj (.t 3) false 91 5,.v (.c 1 0) T91] [(.exit 0,[]),(.ret,[.v (.t 4) T4])] (by kernel_rfl)
def qme(n:Nat):Ct Tryz.prog:=mkC tab (qlM n) [qlN n] Tryz.func148 [.d T34,.d T91] [T4] (by kernel_rfl)
def qkH(n:Nat):CL Tryz.prog:=⟨[qhE n,qme n],[],0,nof⟩
def qkI(n:Nat):LK Tryz.prog false:=mkL tab (qkH n) [] Tryz.f114 [true,false,true,false,false] 0 n [.v (.t 1) T35,.v (.t 5) T3,.obj (.t 2) false 34 2,.v (.c 0 0) T34] [(.exit 0,[.v (.t 1) T35]),(.ret,[.v (.t 4) T4])] (by kernel_rfl)
def qlh(n:Nat):Ct Tryz.prog:=mkC tab (qkH n) [qkI n] Tryz.func114 [.d T34,.d T35] [T4] (by kernel_rfl)
def qnN(n:Nat):CL Tryz.prog:=⟨[],[],0,nof⟩
def qnO(n:Nat):LK Tryz.prog false:=mkL tab (qnN n) [] Tryz.f149 [true,true,false,true,false,false] 0 n [.v (.t 5) T3,.obj (.t 2) false 91 5,.v (.c 0 0) T91,.obj (.t 3) false 91 5,.v (.c 1 0) T91] [(.exit 0,[]),(.ret,[.v (.t 4) T4])] (by kernel_rfl)
def qoj(n:Nat):Ct Tryz.prog:=mkC tab (qnN n) [qnO n] Tryz.func149 [.d T91,.d T91] [T4] (by kernel_rfl)
def qkp(n:Nat):CL Tryz.prog:=⟨[qoj n],[],0,nof⟩
def qnP(n:Nat):LK Tryz.prog false:=mkL tab (qkp n) [] Tryz.f115 [true,false,true,false,false,true,false,false,true,false,false] 1 n [.v (.t 0) T35,.v (.t 3) T3,.v (.t 4) T3] [(.exit 2,[.v (.t 0) T35,.v (.t 3) T3]),(.ret,[.v (.t 2) T4])] (by kernel_rfl)
def qnQ(n:Nat):LK Tryz.prog false:=mkL tab (qkp n) [qnP n] Tryz.f115 [true,false,true,false,false] 0 n [.v (.t 0) T35,.v (.t 3) T3] [(.exit 0,[]),(.ret,[.v (.t 2) T4])] (by kernel_rfl)
def qok(n:Nat):Ct Tryz.prog:=mkC tab (qkp n) [qnQ n] Tryz.func115 [.d T35] [T4] (by kernel_rfl)
def qsX(n:Nat):CL Tryz.prog:=⟨[qm4 n,qlh n,qok n],[],0,nof⟩
def qol(n:Nat):Ct Tryz.prog:=mkC tab (qsX n) [] Tryz.func74 [.d T34,.d T35] [T24] (by kernel_rfl)
end
section
def qwI(n:Nat):CL Tryz.prog:=⟨[],[],0,nof⟩
def qom(n:Nat):Ct Tryz.prog:=mkC tab (qwI n) [] Tryz.func133 [.d T3] [T4] (by kernel_rfl)
def qxD(n:Nat):CL Tryz.prog:=⟨[qom n],[],0,nof⟩
def qpr(n:Nat):Ct Tryz.prog:=mkC tab (qxD n) [] Tryz.func166 [.d T3,.d T3] [T4] (by kernel_rfl)
def qva(n:Nat):CL Tryz.prog:=⟨[qom n],[],0,nof⟩
def qgt(n:Nat):Ct Tryz.prog:=mkC tab (qva n) [] Tryz.func100 [.d T3,.d T3] [T3] (by kernel_rfl)
def qvb(n:Nat):CL Tryz.prog:=⟨[],[],0,nof⟩
def qvc(n:Nat):LK Tryz.prog false:=mkL tab (qvb n) [] Tryz.f78 [true,true,false,true,false,false] 0 n [.v (.t 6) T35,.v (.t 7) T3,.v (.t 8) T3,.row (.t 3) false T3 3] [(.exit 0,[.row (.t 3) false T3 3])] (by kernel_rfl)
def qwn(n:Nat):Cw Tryz.prog:=mkW tab (qvb n) [qvc n] Tryz.func78 [.v (.t 0) T35] 1 [[.row (.t 0) false T3 3]] (by kernel_rfl)
def qe6(n:Nat):CL Tryz.prog:=⟨[qpr n],[],0,nof⟩
def qhF(n:Nat):LK Tryz.prog false:=mkL tab (qe6 n) [] Tryz.f160 [true,false,false,true,false,false,true,false,false] 1 n [.v (.t 1) T3,.v (.t 2) T3,.v (.t 6) T3,.v (.t 7) T3,.row (.t 0) true T3 3] [(.exit 2,[.v (.t 1) T3,.v (.t 2) T3,.v (.t 6) T3,.row (.t 0) true T3 3])] (by kernel_rfl)
def qhG(n:Nat):LK Tryz.prog false:=mkL tab (qe6 n) [qhF n] Tryz.f160 [true,false,false] 0 n [.v (.t 1) T3,.v (.t 2) T3,.v (.t 6) T3,.row (.t 0) true T3 3] [(.exit 0,[.row (.t 0) true T3 3])] (by kernel_rfl)
def qhZ(n:Nat):Cw Tryz.prog:=mkW tab (qe6 n) [qhG n] Tryz.func160 [.v (.t 1) T3,.v (.t 2) T3,.row (.t 0) true T3 3] 3 [[.row (.t 0) true T3 3]] (by kernel_rfl)
def qvd(n:Nat):CL Tryz.prog:=⟨[],[],0,nof⟩
def qqx(n:Nat):Ct Tryz.prog:=mkC tab (qvd n) [] Tryz.func170 [.d T167] [T3] (by kernel_rfl)
def qwJ(n:Nat):CL Tryz.prog:=⟨[qqx n],[],0,nof⟩
def qlO(n:Nat):Ct Tryz.prog:=mkC tab (qwJ n) [] Tryz.func123 [.d T70] [T3] (by kernel_rfl)
def qxE(n:Nat):CL Tryz.prog:=⟨[],[],0,nof⟩
def qg2(n:Nat):Ct Tryz.prog:=mkC tab (qxE n) [] Tryz.func134 [.d T3,.d T3,.d T3] [T4] (by kernel_rfl)
def qvW(n:Nat):CL Tryz.prog:=⟨[qg2 n],[],0,nof⟩
def qnv(n:Nat):Ct Tryz.prog:=mkC tab (qvW n) [] Tryz.func118 [.d T126,.d T3] [T4] (by kernel_rfl)
def qut(n:Nat):CL Tryz.prog:=⟨[qg2 n],[],0,nof⟩
def qmf(n:Nat):Ct Tryz.prog:=mkC tab (qut n) [] Tryz.func119 [.d T126,.d T3] [T4] (by kernel_rfl)
def qoZ(n:Nat):CL Tryz.prog:=⟨[qnv n,qmf n,qg2 n],[],0,nof⟩
def qo0(n:Nat):LK Tryz.prog false:=mkL tab (qoZ n) [] Tryz.f177 [true,true,false,true,false,false] 0 n [.v (.t 5) T3,.v (.t 8) T89,.v (.t 9) T3,.v (.t 10) T3,.obj (.t 2) false 126 2,.v (.c 0 0) T126] [(.exit 0,[]),(.ret,[.v (.t 4) T4])] (by kernel_rfl)
def qpW(n:Nat):Ct Tryz.prog:=mkC tab (qoZ n) [qo0 n] Tryz.func177 [.d T126,.d T89] [T4] (by kernel_rfl)
def qsY(n:Nat):CL Tryz.prog:=⟨[qg2 n,qpW n],[],0,nof⟩
def qon(n:Nat):Ct Tryz.prog:=mkC tab (qsY n) [] Tryz.func139 [.d T126,.d T91] [T4] (by kernel_rfl)
def quj(n:Nat):CL Tryz.prog:=⟨[],[],0,nof⟩
def quk(n:Nat):LK Tryz.prog false:=mkL tab (quj n) [] Tryz.f159 [true,true,false,true,false,false] 0 n [.v (.t 3) T3,.v (.t 6) T22,.v (.t 7) T3,.v (.t 8) T3] [(.exit 0,[.v (.t 3) T3]),(.ret,[.v (.t 2) T3])] (by kernel_rfl)
def qoo(n:Nat):Ct Tryz.prog:=mkC tab (quj n) [quk n] Tryz.func159 [.d T22] [T3] (by kernel_rfl)
def qul(n:Nat):CL Tryz.prog:=⟨[],[],0,nof⟩
def qum(n:Nat):LK Tryz.prog false:=mkL tab (qul n) [] Tryz.f140 [true,false,true,false,false] 0 n [.v (.t 0) T35,.v (.t 5) T35,.v (.t 6) T3,.v (.t 7) T3] [(.exit 0,[]),(.ret,[.v (.t 2) T4])] (by kernel_rfl)
def qve(n:Nat):Ct Tryz.prog:=mkC tab (qul n) [qum n] Tryz.func140 [.d T35] [T4] (by kernel_rfl)
def qop(n:Nat):CL Tryz.prog:=⟨[],[],0,nof⟩
def qoq(n:Nat):LK Tryz.prog false:=mkL tab (qop n) [] Tryz.f52 [true,true,false,true,false,false] 0 n [.v (.t 0) T35,.v (.t 4) T3,.row (.t 3) false T91 91] [(.exit 0,[.row (.t 3) false T91 91])] (by kernel_rfl)
def qo1(n:Nat):Ct Tryz.prog:=mkC tab (qop n) [qoq n] Tryz.func52 [.d T35] [T35] (by kernel_rfl)
def qqQ(n:Nat):CL Tryz.prog:=⟨[],[],0,nof⟩
def qmg(n:Nat):Ct Tryz.prog:=mkC tab (qqQ n) [] Tryz.func51 [.d T34] [T34] (by kernel_rfl)
def qo2(n:Nat):CL Tryz.prog:=⟨[],[],0,nof⟩
def qo3(n:Nat):LK Tryz.prog false:=mkL tab (qo2 n) [] Tryz.f45 [true,false,true,false,false] 0 n [.v (.t 1) T35,.v (.t 5) T3,.obj (.t 2) false 34 2,.v (.c 0 0) T34] [(.exit 0,[.v (.t 1) T35,.obj (.t 2) false 34 2,.v (.c 0 0) T34]),(.ret,[.v (.t 4) T4])] (by kernel_rfl)
def qpX(n:Nat):Ct Tryz.prog:=mkC tab (qo2 n) [qo3 n] Tryz.func45 [.d T34,.d T35] [T4] (by kernel_rfl)
def qrF(n:Nat):CL Tryz.prog:=⟨[],[],0,nof⟩
def qss(n:Nat):Ct Tryz.prog:=mkC tab (qrF n) [] Tryz.func80 [] [T34,T35] (by kernel_rfl)
end
section
def qxF(n:Nat):CL Tryz.prog:=⟨[qgt n,qoo n],[],0,nof⟩
def qmI(n:Nat):Ct Tryz.prog:=mkC tab (qxF n) [] Tryz.func158 [.d T91,.d T91] [T3] (by kernel_rfl)
def qvf(n:Nat):CL Tryz.prog:=⟨[],[],0,nof⟩
def qmY(n:Nat):Cw Tryz.prog:=mkW tab (qvf n) [] Tryz.func156 [.v (.t 0) T91,.obj (.t 1) true 91 5,.v (.c 0 0) T91] 2 [[.v (.t 0) T4,.obj (.t 1) true 91 5,.v (.c 0 0) T91]] (by kernel_rfl)
def qe9(n:Nat):CL Tryz.prog:=⟨[],[qmY n],0,nof⟩
def qfa(n:Nat):LK Tryz.prog false:=mkL tab (qe9 n) [] Tryz.f58 [true,false,true,false,false] 0 n [.v (.t 0) T35,.v (.t 7) T3,.v (.t 8) T3,.fnc (.t 1) 156 [.box true 91 5],.v (.c 0 0) T91] [(.exit 0,[.fnc (.t 1) 156 [.box true 91 5],.v (.c 0 0) T91]),(.ret,[.v (.t 4) T3,.fnc (.t 1) 156 [.box true 91 5],.v (.c 0 0) T91])] (by kernel_rfl)
def qQ(n:Nat):Cw Tryz.prog:=mkW tab (qe9 n) [qfa n] Tryz.func58 [.v (.t 0) T35,.fnc (.t 1) 156 [.box true 91 5],.v (.c 0 0) T91] 2 [[.v (.t 0) T3,.obj (.t 1) true 91 5,.v (.c 0 0) T91]] (by kernel_rfl)
def qiq(n:Nat):CL Tryz.prog:=⟨[],[qQ n,qmY n],0,nof⟩
def qcD(n:Nat):Cw Tryz.prog:=mkW tab (qiq n) [] Tryz.func137 [.v (.t 0) T35,.fnc (.t 1) 156 [.box true 91 5],.v (.c 0 0) T91] 2 [[.v (.t 0) T4,.obj (.t 1) true 91 5,.v (.c 0 0) T91]] (by kernel_rfl)
def qwK(n:Nat):CL Tryz.prog:=⟨[],[qcD n],0,nof⟩
def qor(n:Nat):Cw Tryz.prog:=mkW tab (qwK n) [] Tryz.func155 [.v (.t 0) T91,.obj (.t 1) true 35 1,.v (.c 0 0) T35] 2 [[.v (.t 0) T4,.obj (.t 1) true 35 1,.v (.c 0 0) T35]] (by kernel_rfl)
def qbP(n:Nat):CL Tryz.prog:=⟨[qmI n],[],0,nof⟩
def qdE(n:Nat):LK Tryz.prog false:=mkL tab (qbP n) [] Tryz.f195 [true,false,false,true,false,false,true,false,false] 1 n [.v (.t 1) T3,.v (.t 2) T3,.fn (.t 3) 158 [] [],.v (.t 8) T3,.v (.t 9) T3,.row (.t 0) true T91 91] [(.exit 2,[.v (.t 1) T3,.v (.t 2) T3,.fn (.t 3) 158 [] [],.v (.t 8) T3,.row (.t 0) true T91 91])] (by kernel_rfl)
def qdF(n:Nat):LK Tryz.prog false:=mkL tab (qbP n) [qdE n] Tryz.f195 [true,false,false] 0 n [.v (.t 1) T3,.v (.t 2) T3,.fn (.t 3) 158 [] [],.v (.t 8) T3,.row (.t 0) true T91 91] [(.exit 0,[.row (.t 0) true T91 91])] (by kernel_rfl)
def qbU(n:Nat):Cw Tryz.prog:=mkW tab (qbP n) [qdF n] Tryz.func195 [.v (.t 1) T3,.v (.t 2) T3,.fn (.t 3) 158 [] [],.row (.t 0) true T91 91] 4 [[.row (.t 0) true T91 91]] (by kernel_rfl)
def qvX(n:Nat):CL Tryz.prog:=⟨[qgt n,qoo n],[],0,nof⟩
def qrh(n:Nat):Ct Tryz.prog:=mkC tab (qvX n) [] Tryz.func194 [.d T95,.d T95] [T3] (by kernel_rfl)
def qfu(n:Nat):CL Tryz.prog:=⟨[qrh n],[],0,nof⟩
def qfv(n:Nat):LK Tryz.prog false:=mkL tab (qfu n) [] Tryz.f193 [true,false,true,false,false] 0 n [.v (.t 0) T89,.v (.t 1) T89,.fn (.t 2) 194 [] [],.v (.t 11) T89,.v (.t 12) T3,.v (.t 13) T3] [(.exit 0,[.v (.t 0) T89,.v (.t 1) T89]),(.ret,[.v (.t 6) T3])] (by kernel_rfl)
def qfI(n:Nat):Ct Tryz.prog:=mkC tab (qfu n) [qfv n] Tryz.func193 [.d T89,.d T89,.fn 194 [] []] [T3] (by kernel_rfl)
def qxG(n:Nat):CL Tryz.prog:=⟨[qgt n,qoo n,qfI n],[],0,nof⟩
def qkq(n:Nat):Ct Tryz.prog:=mkC tab (qxG n) [] Tryz.func179 [.d T91,.d T91] [T3] (by kernel_rfl)
def qbQ(n:Nat):CL Tryz.prog:=⟨[qkq n],[],0,nof⟩
def qdG(n:Nat):LK Tryz.prog false:=mkL tab (qbQ n) [] Tryz.f195 [true,false,false,true,false,false,true,false,false] 1 n [.v (.t 1) T3,.v (.t 2) T3,.fn (.t 3) 179 [] [],.v (.t 8) T3,.v (.t 9) T3,.row (.t 0) true T91 91] [(.exit 2,[.v (.t 1) T3,.v (.t 2) T3,.fn (.t 3) 179 [] [],.v (.t 8) T3,.row (.t 0) true T91 91])] (by kernel_rfl)
def qdH(n:Nat):LK Tryz.prog false:=mkL tab (qbQ n) [qdG n] Tryz.f195 [true,false,false] 0 n [.v (.t 1) T3,.v (.t 2) T3,.fn (.t 3) 179 [] [],.v (.t 8) T3,.row (.t 0) true T91 91] [(.exit 0,[.row (.t 0) true T91 91])] (by kernel_rfl)
def qbV(n:Nat):Cw Tryz.prog:=mkW tab (qbQ n) [qdH n] Tryz.func195 [.v (.t 1) T3,.v (.t 2) T3,.fn (.t 3) 179 [] [],.row (.t 0) true T91 91] 4 [[.row (.t 0) true T91 91]] (by kernel_rfl)
def qvg(n:Nat):CL Tryz.prog:=⟨[qg2 n],[],0,nof⟩
def qmZ(n:Nat):Ct Tryz.prog:=mkC tab (qvg n) [] Tryz.func136 [.d T163] [T4] (by kernel_rfl)
def qfS(n:Nat):CL Tryz.prog:=⟨[qmZ n],[],0,nof⟩
def qfT(n:Nat):LK Tryz.prog false:=mkL tab (qfS n) [] Tryz.f176 [true,false,true,false,false] 0 n [.v (.t 0) T32,.fn (.t 1) 136 [] [],.v (.t 7) T3,.v (.t 8) T3] [(.exit 0,[]),(.ret,[.v (.t 4) T3])] (by kernel_rfl)
def qf7(n:Nat):Ct Tryz.prog:=mkC tab (qfS n) [qfT n] Tryz.func176 [.d T32,.fn 136 [] []] [T3] (by kernel_rfl)
def qjC(n:Nat):CL Tryz.prog:=⟨[qmZ n,qf7 n],[],0,nof⟩
def qfw(n:Nat):Ct Tryz.prog:=mkC tab (qjC n) [] Tryz.func135 [.d T32,.fn 136 [] []] [T4] (by kernel_rfl)
def qwL(n:Nat):CL Tryz.prog:=⟨[qg2 n,qfw n],[],0,nof⟩
def qsa(n:Nat):Ct Tryz.prog:=mkC tab (qwL n) [] Tryz.func101 [.d T126] [T4] (by kernel_rfl)
def qvh(n:Nat):CL Tryz.prog:=⟨[qkq n],[],0,nof⟩
def qqy(n:Nat):Ct Tryz.prog:=mkC tab (qvh n) [] Tryz.func181 [.d T91,.d T91] [T4] (by kernel_rfl)
end
section
def qgj(n:Nat):CL Tryz.prog:=⟨[],[],0,fun _=>false⟩
def qjD(n:Nat):Nat→St→PT (DEx×St):=fun _ _=>.fail
theorem qoR(n:Nat):qbi (qgj n).c (qv Tryz.f192) 0=[]:=by kernel_rfl
theorem qoS:Tryz.f192.body=some (qv Tryz.f192):=by kernel_rfl
abbrev qgk:List It:=[.raw (.t 0),.v (.t 1) T3]
abbrev qf4:List (List It):=[[.row (.t 0) false T91 91]]
def qk(n:Nat)(x:qg qgk):Option (qbC qf4):=runW tab (qgj n) (qjD n) (qv Tryz.f192) qgk 2 27 [.tmp 4] qf4 x
def qoT(n:Nat):Cw Tryz.prog:=⟨192,2,qgk,1,qf4,qk n,fun _ _ h=>qm3 (B:=tab) (cs:=qgj n) (lo:=qjD n) (rs:=[.tmp 4]) Tryz.func192 (by kernel_rfl) qoS (by kernel_rfl) (by decide) (qkW (qoR n) all_nil) h⟩
def qg3(n:Nat):CL Tryz.prog:=⟨[],[qoT n],1,nof⟩
def qkr(n:Nat):LK Tryz.prog false:=mkL tab (qg3 n) [] Tryz.f178 [true,true,false,true,false,false] 0 n [.v (.t 0) T211,.v (.t 3) T3,.v (.t 9) T211,.v (.t 10) T3,.v (.t 11) T3] [(.exit 0,[.v (.t 0) T211,.v (.t 3) T3])] (by kernel_rfl)
def qks(n:Nat):LK Tryz.prog false:=mkL tab (qg3 n) [] Tryz.f178 [true,true,true,true,false,true,false,false] 1 n [.v (.t 25) T211,.v (.t 26) T3,.v (.t 27) T3,.row (.t 6) false T91 91] [(.exit 2,[.row (.t 6) false T91 91])] (by kernel_rfl)
def qkJ(n:Nat):Cw Tryz.prog:=mkW tab (qg3 n) [qkr n,qks n] Tryz.func178 [.v (.t 0) T211] 1 [[.row (.t 0) false T91 91]] (by kernel_rfl)
abbrev qn:List It:=[.v (.t 1) T3,.v (.t 2) T3,.v (.t 3) T3,.fn (.t 4) 179 [] [],.row (.t 0) true T91 91]
abbrev ql:List (List It):=[[.row (.t 0) true T91 91]]
abbrev qc:Type:={g:qg qn→Option (qbC ql) // qr7 Tryz.prog 184 5 qn 0 ql g}
def qG(n:Nat)(g:qc):CL Tryz.prog:=⟨[qkq n],[qbU n,qbV n,⟨184,5,qn,0,ql,g.1,g.2⟩],0,fun _=>false⟩
def qeo(n:Nat)(g:qc):Nat→St→PT (DEx×St):=fun _ _=>.fail
abbrev qV:List It:=[.v (.t 1) T3,.v (.t 2) T3,.v (.t 3) T3,.fn (.t 4) 179 [] [],.v (.t 10) T4,.v (.t 11) T4,.row (.t 0) true T91 91]
abbrev qbo:List (DEx×List It):=[(.ret,[.row (.t 0) true T91 91])]
def qez(n:Nat)(g:qc)(rec:qg qV→Option (qbD qbo))(s:qg qV):Option (qbD qbo):=(qgi tab (qG n g) (qeo n g) (subC [true,true,false,false] (qv Tryz.f184)) 1 (mkS qV 148 s)).run (Lp.leaf 148 qV qbo rec)
def qcs(n:Nat)(g:qc):Lp:=⟨148,qV,qbo,qb n (qez n g)⟩
theorem qir(n:Nat)(g:qc):qbi (qG n g).c (subC [true,true,false,false] (qv Tryz.f184)) 1=[]:=by kernel_rfl
theorem qhP(n:Nat)(g:qc)(st:St)(r:DEx×St)(h:((qcs n g).go st).Is r):DA Tryz.prog false (.loop (subC [true,true,false,false] (qv Tryz.f184))) st r:=Lp.ok (L:=qcs n g) (B:=tab) (cs:=qG n g) (lo:=qeo n g) (id:=0) rfl (qkW (qir n g) all_nil) (fun _ _=>rfl) h
def qeA(n:Nat)(g:qc):Nat→St→PT (DEx×St):=fun k st=>match k with
 | 0=>(qcs n g).go st
 | _=>.fail
theorem qiy(n:Nat)(g:qc):qbi (qG n g).c (qv Tryz.f184) 0=[(0,.loop (subC [true,true,false,false] (qv Tryz.f184)))]:=by kernel_rfl
theorem qiz:Tryz.f184.body=some (qv Tryz.f184):=by kernel_rfl
def qct(n:Nat)(g:qc)(x:qg qn):Option (qbC ql):=runW tab (qG n g) (qeA n g) (qv Tryz.f184) qn 5 148 [] ql x
theorem qis(n:Nat)(g:qc):qr7 Tryz.prog 184 5 qn 0 ql (qct n g):=fun _ _ h=>qm3 (B:=tab) (cs:=qG n g) (lo:=qeA n g) (rs:=[]) Tryz.func184 (by kernel_rfl) qiz (by kernel_rfl) (by decide) (qkW (qiy n g) (all_cons (fun st r h=>qhP n g st r h) all_nil)) h
def qD(n:Nat):Nat→qc
 | 0=>⟨fun _=>none,fun _ _ h=>by cases h⟩
 | k+1=>⟨qct n (qD n k),qis n (qD n k)⟩
def qeQ(n:Nat)(x:qg qn):Option (qbC ql):=(qD n n).1 x
def qeR(n:Nat):Cw Tryz.prog:=⟨184,5,qn,0,ql,qeQ n,(qD n n).2⟩
def qkd(n:Nat):CL Tryz.prog:=⟨[qlO n,qkq n],[qeR n],0,nof⟩
def qdo(n:Nat):Cw Tryz.prog:=mkW tab (qkd n) [] Tryz.func157 [.fn (.t 1) 179 [] [],.row (.t 0) true T91 91] 2 [[.row (.t 0) true T91 91]] (by kernel_rfl)
abbrev qo:List It:=[.v (.t 1) T3,.v (.t 2) T3,.v (.t 3) T3,.fn (.t 4) 158 [] [],.row (.t 0) true T91 91]
abbrev qm:List (List It):=[[.row (.t 0) true T91 91]]
abbrev qd:Type:={g:qg qo→Option (qbC qm) // qr7 Tryz.prog 184 5 qo 0 qm g}
def qH(n:Nat)(g:qd):CL Tryz.prog:=⟨[qmI n],[qbU n,qbV n,⟨184,5,qo,0,qm,g.1,g.2⟩],0,fun _=>false⟩
def qep(n:Nat)(g:qd):Nat→St→PT (DEx×St):=fun _ _=>.fail
abbrev qW:List It:=[.v (.t 1) T3,.v (.t 2) T3,.v (.t 3) T3,.fn (.t 4) 158 [] [],.v (.t 10) T4,.v (.t 11) T4,.row (.t 0) true T91 91]
abbrev qbp:List (DEx×List It):=[(.ret,[.row (.t 0) true T91 91])]
def qeB(n:Nat)(g:qd)(rec:qg qW→Option (qbD qbp))(s:qg qW):Option (qbD qbp):=(qgi tab (qH n g) (qep n g) (subC [true,true,false,false] (qv Tryz.f184)) 1 (mkS qW 148 s)).run (Lp.leaf 148 qW qbp rec)
def qcu(n:Nat)(g:qd):Lp:=⟨148,qW,qbp,qb n (qeB n g)⟩
theorem qit(n:Nat)(g:qd):qbi (qH n g).c (subC [true,true,false,false] (qv Tryz.f184)) 1=[]:=by kernel_rfl
theorem qhQ(n:Nat)(g:qd)(st:St)(r:DEx×St)(h:((qcu n g).go st).Is r):DA Tryz.prog false (.loop (subC [true,true,false,false] (qv Tryz.f184))) st r:=Lp.ok (L:=qcu n g) (B:=tab) (cs:=qH n g) (lo:=qep n g) (id:=0) rfl (qkW (qit n g) all_nil) (fun _ _=>rfl) h
def qeC(n:Nat)(g:qd):Nat→St→PT (DEx×St):=fun k st=>match k with
 | 0=>(qcu n g).go st
 | _=>.fail
theorem qiA(n:Nat)(g:qd):qbi (qH n g).c (qv Tryz.f184) 0=[(0,.loop (subC [true,true,false,false] (qv Tryz.f184)))]:=by kernel_rfl
theorem qiB:Tryz.f184.body=some (qv Tryz.f184):=by kernel_rfl
def qcv(n:Nat)(g:qd)(x:qg qo):Option (qbC qm):=runW tab (qH n g) (qeC n g) (qv Tryz.f184) qo 5 148 [] qm x
theorem qiu(n:Nat)(g:qd):qr7 Tryz.prog 184 5 qo 0 qm (qcv n g):=fun _ _ h=>qm3 (B:=tab) (cs:=qH n g) (lo:=qeC n g) (rs:=[]) Tryz.func184 (by kernel_rfl) qiB (by kernel_rfl) (by decide) (qkW (qiA n g) (all_cons (fun st r h=>qhQ n g st r h) all_nil)) h
def qE(n:Nat):Nat→qd
 | 0=>⟨fun _=>none,fun _ _ h=>by cases h⟩
 | k+1=>⟨qcv n (qE n k),qiu n (qE n k)⟩
def qeS(n:Nat)(x:qg qo):Option (qbC qm):=(qE n n).1 x
def qiC(n:Nat):Cw Tryz.prog:=⟨184,5,qo,0,qm,qeS n,(qE n n).2⟩
def qke(n:Nat):CL Tryz.prog:=⟨[qlO n,qmI n],[qeR n,qiC n],0,nof⟩
def qdp(n:Nat):Cw Tryz.prog:=mkW tab (qke n) [] Tryz.func157 [.fn (.t 1) 158 [] [],.row (.t 0) true T91 91] 2 [[.row (.t 0) true T91 91]] (by kernel_rfl)
def qcw(n:Nat):CL Tryz.prog:=⟨[qqy n],[],0,nof⟩
def qeD(n:Nat):LK Tryz.prog false:=mkL tab (qcw n) [] Tryz.f180 [true,true,false,true,false,false,true,false,false,true,false,true,false,true,false,false] 1 n [.fn (.t 1) 181 [] [],.v (.t 5) T3,.v (.t 7) T3,.row (.t 0) true T91 91,.sub (.t 6) 0] [(.exit 2,[.v (.t 5) T3,.row (.t 0) true T91 91])] (by kernel_rfl)
def qeE(n:Nat):LK Tryz.prog false:=mkL tab (qcw n) [qeD n] Tryz.f180 [true,true,false,true,false,false] 0 n [.fn (.t 1) 181 [] [],.v (.t 5) T3,.row (.t 0) true T91 91] [(.exit 0,[.row (.t 0) true T91 91]),(.ret,[.row (.t 0) true T91 91,.sub (.t 4) 0])] (by kernel_rfl)
def qeT(n:Nat):Cw Tryz.prog:=mkW tab (qcw n) [qeE n] Tryz.func180 [.fn (.t 1) 181 [] [],.row (.t 0) true T91 91] 2 [[.row (.t 1) true T91 91,.sub (.t 0) 0]] (by kernel_rfl)
def qeU(n:Nat):CL Tryz.prog:=⟨[],[qor n],0,nof⟩
def qeV(n:Nat):LK Tryz.prog false:=mkL tab (qeU n) [] Tryz.f58 [true,false,true,false,false] 0 n [.v (.t 7) T3,.v (.t 8) T3,.row (.t 0) true T91 91,.fnc (.t 1) 155 [.box true 35 1],.v (.c 1 0) T35] [(.exit 0,[.row (.t 0) true T91 91,.fnc (.t 1) 155 [.box true 35 1],.v (.c 1 0) T35]),(.ret,[.v (.t 4) T3,.row (.t 0) true T91 91,.fnc (.t 1) 155 [.box true 35 1],.v (.c 1 0) T35])] (by kernel_rfl)
def qX(n:Nat):Cw Tryz.prog:=mkW tab (qeU n) [qeV n] Tryz.func58 [.row (.t 0) true T91 91,.fnc (.t 1) 155 [.box true 35 1],.v (.c 1 0) T35] 2 [[.v (.t 0) T3,.row (.t 1) true T91 91,.obj (.t 2) true 35 1,.v (.c 1 0) T35]] (by kernel_rfl)
def qfm(n:Nat):CL Tryz.prog:=⟨[],[qX n,qQ n,qor n],0,nof⟩
def qfn(n:Nat):LK Tryz.prog false:=mkL tab (qfm n) [] Tryz.f153 [true,true,true,false,true,false,false] 0 n [.v (.t 5) T3,.v (.t 6) T3,.row (.t 0) true T91 91,.fnc (.t 1) 155 [.box true 35 1],.v (.c 1 0) T35] [(.exit 0,[.v (.t 5) T3,.row (.t 0) true T91 91,.fnc (.t 1) 155 [.box true 35 1],.v (.c 1 0) T35])] (by kernel_rfl)
def qfx(n:Nat):Cw Tryz.prog:=mkW tab (qfm n) [qfn n] Tryz.func153 [.row (.t 0) true T91 91,.fnc (.t 1) 155 [.box true 35 1],.v (.c 1 0) T35] 2 [[.row (.t 1) true T91 91,.obj (.t 2) true 35 1,.v (.c 1 0) T35,.sub (.t 0) 0]] (by kernel_rfl)
abbrev qbc:List It:=[.v (.t 1) T3,.v (.t 2) T3,.v (.t 3) T3,.row (.t 0) true T3 3]
abbrev q9:List (List It):=[[.row (.t 0) true T3 3]]
abbrev qt:Type:={g:qg qbc→Option (qbC q9) // qr7 Tryz.prog 122 4 qbc 0 q9 g}
def qcl(n:Nat)(g:qt):CL Tryz.prog:=⟨[qpr n],[qhZ n,⟨122,4,qbc,0,q9,g.1,g.2⟩],0,fun _=>false⟩
def qjE(n:Nat)(g:qt):Nat→St→PT (DEx×St):=fun _ _=>.fail
abbrev qc4:List It:=[.v (.t 1) T3,.v (.t 2) T3,.v (.t 3) T3,.v (.t 8) T4,.v (.t 9) T4,.row (.t 0) true T3 3]
abbrev qeN:List (DEx×List It):=[(.ret,[.row (.t 0) true T3 3])]
def qj3(n:Nat)(g:qt)(rec:qg qc4→Option (qbD qeN))(s:qg qc4):Option (qbD qeN):=(qgi tab (qcl n g) (qjE n g) (subC [true,true,false,false] (qv Tryz.f122)) 1 (mkS qc4 134 s)).run (Lp.leaf 134 qc4 qeN rec)
def qgG(n:Nat)(g:qt):Lp:=⟨134,qc4,qeN,qb n (qj3 n g)⟩
theorem qoU(n:Nat)(g:qt):qbi (qcl n g).c (subC [true,true,false,false] (qv Tryz.f122)) 1=[]:=by kernel_rfl
theorem qnw(n:Nat)(g:qt)(st:St)(r:DEx×St)(h:((qgG n g).go st).Is r):DA Tryz.prog false (.loop (subC [true,true,false,false] (qv Tryz.f122))) st r:=Lp.ok (L:=qgG n g) (B:=tab) (cs:=qcl n g) (lo:=qjE n g) (id:=0) rfl (qkW (qoU n g) all_nil) (fun _ _=>rfl) h
def qj4(n:Nat)(g:qt):Nat→St→PT (DEx×St):=fun k st=>match k with
 | 0=>(qgG n g).go st
 | _=>.fail
theorem qps(n:Nat)(g:qt):qbi (qcl n g).c (qv Tryz.f122) 0=[(0,.loop (subC [true,true,false,false] (qv Tryz.f122)))]:=by kernel_rfl
theorem qpt:Tryz.f122.body=some (qv Tryz.f122):=by kernel_rfl
def qgH(n:Nat)(g:qt)(x:qg qbc):Option (qbC q9):=runW tab (qcl n g) (qj4 n g) (qv Tryz.f122) qbc 4 134 [] q9 x
theorem qoV(n:Nat)(g:qt):qr7 Tryz.prog 122 4 qbc 0 q9 (qgH n g):=fun _ _ h=>qm3 (B:=tab) (cs:=qcl n g) (lo:=qj4 n g) (rs:=[]) Tryz.func122 (by kernel_rfl) qpt (by kernel_rfl) (by decide) (qkW (qps n g) (all_cons (fun st r h=>qnw n g st r h) all_nil)) h
def qbN(n:Nat):Nat→qt
 | 0=>⟨fun _=>none,fun _ _ h=>by cases h⟩
 | k+1=>⟨qgH n (qbN n k),qoV n (qbN n k)⟩
def qkt(n:Nat)(x:qg qbc):Option (qbC q9):=(qbN n n).1 x
def qpu(n:Nat):Cw Tryz.prog:=⟨122,4,qbc,0,q9,qkt n,(qbN n n).2⟩
def quu(n:Nat):CL Tryz.prog:=⟨[qlO n],[qpu n],0,nof⟩
def qpY(n:Nat):Cw Tryz.prog:=mkW tab (quu n) [] Tryz.func79 [.row (.t 0) true T3 3] 1 [[.row (.t 0) true T3 3]] (by kernel_rfl)
def qvY(n:Nat):CL Tryz.prog:=⟨[],[qdo n,qdp n,qkJ n,qeT n],1,nof⟩
def qnx(n:Nat):Cw Tryz.prog:=mkW tab (qvY n) [] Tryz.func141 [.v (.t 0) T211] 1 [[.row (.t 0) false T91 91]] (by kernel_rfl)
def qqR(n:Nat):CL Tryz.prog:=⟨[qon n],[],0,nof⟩
def qiD(n:Nat):Cw Tryz.prog:=mkW tab (qqR n) [] Tryz.func138 [.v (.t 0) T91,.obj (.t 1) true 126 2,.v (.c 0 0) T126] 2 [[.v (.t 0) T4,.obj (.t 1) true 126 2,.v (.c 0 0) T126]] (by kernel_rfl)
def qd2(n:Nat):CL Tryz.prog:=⟨[],[qiD n],0,nof⟩
def qd3(n:Nat):LK Tryz.prog false:=mkL tab (qd2 n) [] Tryz.f58 [true,false,true,false,false] 0 n [.v (.t 0) T35,.v (.t 7) T3,.v (.t 8) T3,.fnc (.t 1) 138 [.box true 126 2],.v (.c 0 0) T126] [(.exit 0,[.fnc (.t 1) 138 [.box true 126 2],.v (.c 0 0) T126]),(.ret,[.v (.t 4) T3,.fnc (.t 1) 138 [.box true 126 2],.v (.c 0 0) T126])] (by kernel_rfl)
def qbd(n:Nat):Cw Tryz.prog:=mkW tab (qd2 n) [qd3 n] Tryz.func58 [.v (.t 0) T35,.fnc (.t 1) 138 [.box true 126 2],.v (.c 0 0) T126] 2 [[.v (.t 0) T3,.obj (.t 1) true 126 2,.v (.c 0 0) T126]] (by kernel_rfl)
def qg4(n:Nat):CL Tryz.prog:=⟨[],[qX n,qQ n,qbd n,qiD n],0,nof⟩
def qdI(n:Nat):Cw Tryz.prog:=mkW tab (qg4 n) [] Tryz.func137 [.v (.t 0) T35,.fnc (.t 1) 138 [.box true 126 2],.v (.c 0 0) T126] 2 [[.v (.t 0) T4,.obj (.t 1) true 126 2,.v (.c 0 0) T126]] (by kernel_rfl)
def qst(n:Nat):CL Tryz.prog:=⟨[qve n],[qcD n,qdI n,qnx n],1,nof⟩
def qnR(n:Nat):Ct Tryz.prog:=mkC tab (qst n) [] Tryz.func102 [.d T126,.d T35] [T24] (by kernel_rfl)
def qzw(n:Nat):CL Tryz.prog:=⟨[qsa n,qnR n],[],0,nof⟩
def qri(n:Nat):Ct Tryz.prog:=mkC tab (qzw n) [] Tryz.func61 [.d T34,.d T35] [T24] (by kernel_rfl)
end
section
def qf5(n:Nat):CL Tryz.prog:=⟨[],[],0,fun _=>false⟩
def qjb(n:Nat):Nat→St→PT (DEx×St):=fun _ _=>.fail
theorem qos(n:Nat):qbi (qf5 n).c (qv Tryz.f154) 0=[]:=by kernel_rfl
theorem qot:Tryz.f154.body=some (qv Tryz.f154):=by kernel_rfl
abbrev qf6:List It:=[.raw (.t 0)]
abbrev qfN:List (List It):=[[.row (.t 0) false T91 91]]
def qeq(n:Nat)(x:qg qf6):Option (qbC qfN):=runW tab (qf5 n) (qjb n) (qv Tryz.f154) qf6 1 8 [.tmp 2] qfN x
def qou(n:Nat):Cw Tryz.prog:=⟨154,1,qf6,1,qfN,qeq n,fun _ _ h=>qm3 (B:=tab) (cs:=qf5 n) (lo:=qjb n) (rs:=[.tmp 2]) Tryz.func154 (by kernel_rfl) qot (by kernel_rfl) (by decide) (qkW (qos n) all_nil) h⟩
def qho(n:Nat):CL Tryz.prog:=⟨[],[],0,fun _=>false⟩
def qkK(n:Nat):Nat→St→PT (DEx×St):=fun _ _=>.fail
theorem qqh(n:Nat):qbi (qho n).c (qv Tryz.f154) 0=[]:=by kernel_rfl
theorem qqi:Tryz.f154.body=some (qv Tryz.f154):=by kernel_rfl
abbrev qhp:List It:=[.v (.t 0) T35]
abbrev qe7:List (List It):=[[.row (.t 0) false T91 91]]
def qfD(n:Nat)(x:qg qhp):Option (qbC qe7):=runW tab (qho n) (qkK n) (qv Tryz.f154) qhp 1 8 [.tmp 2] qe7 x
def qqj(n:Nat):Cw Tryz.prog:=⟨154,1,qhp,1,qe7,qfD n,fun _ _ h=>qm3 (B:=tab) (cs:=qho n) (lo:=qkK n) (rs:=[.tmp 2]) Tryz.func154 (by kernel_rfl) qqi (by kernel_rfl) (by decide) (qkW (qqh n) all_nil) h⟩
end
theorem qqk(n:Nat)(c:Nat):qeq n (.slice none 0 c,())=some ([],()):=by kernel_rfl
theorem qql(n:Nat)(a:Addr)(c:Nat):qeq n (.slice (some a) 0 c,())=some ([],()):=by kernel_rfl
def qli(n:Nat):Cw Tryz.prog:=qBP 154 T91 qe7 (qeq n) (qfD n) ([],()) (fun v y m0 h=>(qou n).okk (x:=(v,())) (y:=y) h m0 (qt1 m0)) (fun l y m0 h=>(qqj n).okk (x:=(l,())) (y:=y) h m0 (qt1 m0)) (fun A c=>by cases A with | none=>exact qqk n c | some a=>exact qql n a c)
def qqm(n:Nat):=(qli n).M
set_option maxHeartbeats 4000000
def qlx(hut:Int)(lo:Int):Nat→List (Int×Int)
 | 0=>[]
 | n+1=>(hut,lo)::qlx hut (lo+1) n
def qsZ(s:Int×(Int×Int)):List (Int×Int):=qlx s.1 s.2.1 (s.2.2+1-s.2.1).toNat
def qcR:List (Int×(Int×Int))→List (Int×Int)
 | []=>[]
 | s::l=>qsZ s++qcR l
def qvi(l:List (Int×(Int×Int))):Bool:=Nat.ble l.length 1000000&&l.all fun s=>decide (-9223372036854775808≤s.2.1)&&decide (s.2.2<9223372036854775807)
def qxH(y:Int×Int):qT [T158]:=(y,())
theorem qzc(l:List (Int×Int)):((l.map qxH).map (tysA [T158])).length=l.length:=by rw[List.length_map,List.length_map]
def qrj(l:List (Int×(Int×Int))):Option (List (qT [T158])):=cond (qvi l) (some ((qcR l).map qxH)) none
def qjF(l:List (Int×(Int×Int)))(k:Nat):Nat:=(qcR (l.take k)).length
theorem qsu(h:Int):∀(n:Nat) (lo:Int),(qlx h lo n).length=n
 | 0,_=>rfl
 | n+1,lo=>by simp[qlx,qsu h n]
theorem qxI(h:Int):∀(n:Nat) (lo:Int) (j:Nat),j<n→(qlx h lo n)[j]?=some (h,lo+j)
 | n+1,lo,0,_=>by simp[qlx]
 | n+1,lo,j+1,hj=>by
  simp only[qlx,List.getElem?_cons_succ]
  rw[qxI h n (lo+1) j (by omega)]
  congr 2
  omega
theorem qt2:∀(l m:List (Int×(Int×Int))),qcR (l++m)=qcR l++qcR m
 | [],_=>rfl
 | s::l,m=>by simp[qcR,qt2 l m]
theorem qCB(l:List (Int×(Int×Int)))(k:Nat)(hk:k<l.length):qjF l (k+1)=qjF l k+(l[k].2.2+1-l[k].2.1).toNat:=by
 unfold qjF
 rw[List.take_succ_eq_append_getElem hk,qt2]
 simp[qcR,qsZ,qsu]
theorem qDM(l:List (Int×(Int×Int))):qjF l l.length=(qcR l).length:=by unfold qjF;simp
theorem qFl(l:List (Int×(Int×Int)))(k:Nat)(hk:k<l.length)(j:Nat)(hj:j<(l[k].2.2+1-l[k].2.1).toNat):(qcR l)[qjF l k+j]?=some (l[k].1,l[k].2.1+j):=by
 have h1:l=l.take k++l[k]::l.drop (k+1):=by simp
 have h2:qcR l=qcR (l.take k)++(qsZ l[k]++qcR (l.drop (k+1))):=by
  conv=>lhs;rw[h1]
  rw[qt2];rfl
 rw[h2,List.getElem?_append_right (by unfold qjF;omega),show qjF l k+j-(qcR (l.take k)).length=j by unfold qjF;omega,List.getElem?_append_left (by unfold qsZ;rw[qsu];exact hj)]
 exact qxI _ _ _ _ hj
theorem qGh{a b:Int}(h:a=b):[AV.int a]=[AV.int b]:=by rw[h]
theorem qFm(x:qT [T91])(l:List (qT [T158]))(h:qrj x.1.2.2.2.2=some l):qxa Tryz.prog false 183 [] (qhY [T91] x) (l.map (tysA [T158])):=by
 obtain ⟨⟨ma,mb,mc,md,ss⟩,u⟩:=x
 change List (Int×(Int×Int)) at ss
 unfold qrj at h
 cases hb:qvi ss with
 | false=>simp only at h;rw[hb] at h;cases h
 | true =>
 simp only at h;rw[hb] at h
 injection h with h
 subst h
 unfold qvi at hb
 simp only[Bool.and_eq_true,Nat.ble_eq,List.all_eq_true,decide_eq_true_eq] at hb
 obtain ⟨hlen,hbd⟩:=hb
 refine ⟨enters_of Tryz.func183 (by kernel_rfl) rfl,fun lp T J Jx X hcJ hcx hone hy=>?_⟩
 have hyk:∀k (hk:k<ss.length) (j:Nat),j<(ss[k].2.2+1-ss[k].2.1).toNat→qw9 Tryz.prog T lp [.agg [.int ss[k].1,.int (ss[k].2.1+j)]] (J (qjF ss k+j)) (J (qjF ss k+j+1)) Jx:=fun k hk j hj=>by
  have h1:=qFl ss k hk j hj
  have h2:=(List.getElem?_eq_some_iff.1 h1).1
  have h3:=hy (qjF ss k+j) (by rw[qzc];exact h2)
  rw[List.getElem_map,List.getElem_map,(List.getElem?_eq_some_iff.1 h1).2] at h3
  exact h3
 have hY:=Lib.hid hyk
 have hN:=Lib.hid (qCB ss)
 have hN0:qjF ss 0=0:=rfl
 have hNl:qjF ss ss.length=(((qcR ss).map qxH).map (tysA [T158])).length:=by rw[qDM,qzc]
 show MCT Tryz.prog T 183 [.val (.func (.yield lp) #[] #[]),.rp [.val (.int .i64 ma),.val (.int .i64 mb),.val (.int .i64 mc),.val (.int .i64 md),.sl 3 (ss.map fun s=>[.val (.int .i64 s.1),.val (.int .i64 s.2.1),.val (.int .i64 s.2.2)])]] [.nodef,.ghost X (J 0)] fun _ H'=>∃X',HE.ghost X' (J (((qcR ss).map qxH).map (tysA [T158])).length)∈H'∨HE.ghost X' Jx∈H'
 rw[← hNl,← hN0]
 clear hy hyk hNl
 generalize hrr:(ss.map fun s=>[AV.val (.int .i64 s.1),AV.val (.int .i64 s.2.1),AV.val (.int .i64 s.2.2)])=rr
 have hrl:rr.length=ss.length:=by rw[← hrr];simp
 have hra:∀k (hk:k<ss.length),rr[k]?=some [.int ss[k].1,.int ss[k].2.1,.int ss[k].2.2]:=fun k hk=>by rw[← hrr,List.getElem?_map,List.getElem?_eq_getElem hk];rfl
 (refine MCT.of Tryz.func183 (by kernel_rfl) rfl (by simp only[Tryz.ntmps183,List.length_cons,List.length_nil,Nat.reduceAdd,Nat.reduceSub,List.replicate_succ,List.replicate_zero,List.cons_append,List.nil_append];rfl) fun w0 S hM hT=>?_;have hF:Wf Fence.wide:=.inl rfl)
 (repeat' (first | ((first | with_reducible refine AL.id_ ?_ | with_reducible refine AE.id_ ?_);first | refine AL.build0 hF rfl rfl rfl (fun b=>⟨_,(by simp only[AV.put];rfl),?_⟩) | refine W.s rfl rfl (by first | exact AY.bx rfl (by simp only[evO,AV.get];rfl) rfl | exact AY.mkFn rfl (by simp only[List.map_cons,List.map_nil,evO,AV.get];rfl) | exact AY.mkFn1 rfl (by simp only[evO,AV.get];rfl) (by simp only[List.map_cons,List.map_nil,evO,AV.get];rfl) | exact hEQ rfl rfl rfl | exact Step2.sound (by first | (((first | (apply Step2.a;constructor) | (apply Step2.b;constructor))<;>first | infer_instance | skip)<;>(first | infer_instance | (refine w64c ?_;omega) | (refine qty ?_;omega) | (refine qq6 ?_;omega) | (refine qq7 ?_;omega) | (refine qtv ?_;omega) | ((repeat (first | exact .head _ | refine .tail _ ?_));done) | assumption | (simp only[List.drop_succ_cons,List.drop_zero,List.length_map,Nat.zero_add,Nat.mul_one];rfl) | rfl | omega | (simp;done))) | fail) rfl | exact AY.call rfl rfl _ rfl (by fail) | exact AY.slice1 rfl rfl rfl (by rfl) (by first | (simp;done) | fail) | exact AY.callF rfl _ _ rfl _ rfl (by fail) | exact AY.old1k 0 rfl rfl rfl (by first | assumption | rfl) | exact AY.old1k 1 rfl rfl rfl (by first | assumption | rfl) | exact AY.old1k 2 rfl rfl rfl (by first | assumption | rfl) | exact AY.oldNk 0 rfl rfl rfl (by first | omega | (simp;omega)) (by first | assumption | rfl) | exact AY.oldNk 1 rfl rfl rfl (by first | omega | (simp;omega)) (by first | assumption | rfl)) (by simp only[AV.put];rfl) ?_ | (refine AL.nilK (hK _ _ ?_);clear hK K) | (refine AE.nil (hK _ ?_);clear hK K) | refine W.k rfl rfl (by simp only[AV.put];rfl) ?_ | refine AL.unguardS rfl rfl ?_ | refine AL.al hF rfl rfl rfl (by first | (simp only[Value.cells,List.map_cons,List.map_nil];rfl) | rfl) (fun b=>⟨_,(by simp only[AV.put];rfl),?_⟩) | refine AL.st1 hF rfl rfl rfl rfl (by simp only[evO,AV.get];rfl) (by first | exact qlD | exact qlE | exact qlF | exact qlG | exact qlH | exact qlI | exact qlJ | exact qlK) (by rfl) rfl (by rfl) (by first | (simp;done) | (simp;omega) | omega) (by simp only[List.set];rfl) ?_ | refine AL.stW hF rfl rfl rfl rfl (by simp only[evO,AV.get];rfl) (by first | exact qlD | exact qlE | exact qlF | exact qlG | exact qlH | exact qlI | exact qlJ | exact qlK) (by rfl) (by rfl) (by rfl) (by first | rfl | simp) (by simp only[List.set];rfl) ?_) | (with_reducible refine Awp.id_ ?_;first | refine Awp.seq ?_ | refine Awp.regionK (by first | (simp only[AV.putO,AV.put];rfl) | rfl) (fun K hK=>?_) | refine Awp.drawE (by first | (simp only[AV.putO,AV.put];rfl) | rfl) mixed rfl (by kernel_rfl) (fun K hK=>?_) | refine Awp.block ?_ | refine Awp.skip ?_ | refine Awp.exit ?_ | refine Awp.ret ?_ | refine Awp.condT rfl ?_ | refine Awp.condF rfl ?_) | refine qpe ?_ | refine qpf ?_ | refine qpg ?_ | refine qkQ ?_ | refine qkR ?_ | refine qkS ?_ | refine qkT rfl ?_ | ((first | ((first | with_reducible refine AL.id_ ?_ | with_reducible refine AE.id_ ?_);(fail_if_success refine W.on rfl ?_);refine W.p rfl rfl (by simp only[AV.put];rfl) (by simp only[AV.put];rfl) (fun hb=>?_) (fun hb=>?_)) | (with_reducible refine Awp.id_ ?_;refine Awp.cond _ rfl (fun hb=>?_) (fun hb=>?_)))<;>(try simp only[z1,z2,z3,z4,z5,z6,z7,z8,y5,y6,y7,y8,z9,x1,x2,x3,x4,x5,x6,x7,x8] at hb;try (exfalso;omega)))))
 refine Awp.loopM [4,5,10,11,12,13,14,15,16,17,18,19,20,21,22,23,24,25,26,27,28,29,30] [9] (fun n vs H=>∃(k:Nat) (X':Nat→Prop),n+k=ss.length∧vs=[.int k]∧H=[.nodef,.ghost X' (J (qjF ss k))]) ss.length ⟨0,X,rfl,rfl,rfl⟩ ?_
 rintro n ju vs H ⟨k,X',hk,rfl,rfl⟩
 (refine Awp.slots (by first | (simp only[putl,mask,AV.put];rfl) | rfl) ?_)
 by_cases hlt:k<ss.length
 ·have hrow:=hra k hlt
  have hYk:=Lib.hid (hY.out k hlt)
  have hNk:=hN.out k hlt
  obtain ⟨hb1,hb2⟩:=hbd _ (List.getElem_mem hlt)
  generalize ss[k].1=hu at *
  generalize ss[k].2.1=lo at *
  generalize ss[k].2.2=hi at *
  (repeat' (first | ((first | with_reducible refine AL.id_ ?_ | with_reducible refine AE.id_ ?_);first | refine AL.build0 hF rfl rfl rfl (fun b=>⟨_,(by simp only[AV.put];rfl),?_⟩) | refine W.s rfl rfl (by first | exact AY.bx rfl (by simp only[evO,AV.get];rfl) rfl | exact AY.mkFn rfl (by simp only[List.map_cons,List.map_nil,evO,AV.get];rfl) | exact AY.mkFn1 rfl (by simp only[evO,AV.get];rfl) (by simp only[List.map_cons,List.map_nil,evO,AV.get];rfl) | exact hEQ rfl rfl rfl | exact Step2.sound (by first | (((first | (apply Step2.a;constructor) | (apply Step2.b;constructor))<;>first | infer_instance | skip)<;>(first | infer_instance | (refine w64c ?_;omega) | (refine qty ?_;omega) | (refine qq6 ?_;omega) | (refine qq7 ?_;omega) | (refine qtv ?_;omega) | ((repeat (first | exact .head _ | refine .tail _ ?_));done) | assumption | (simp only[List.drop_succ_cons,List.drop_zero,List.length_map,Nat.zero_add,Nat.mul_one];rfl) | rfl | omega | (simp;done))) | fail) rfl | exact AY.call rfl rfl _ rfl (by fail) | exact AY.slice1 rfl rfl rfl (by rfl) (by first | (simp;done) | fail) | exact AY.callF rfl _ _ rfl _ rfl (by fail) | exact AY.old1k 0 rfl rfl rfl (by first | assumption | rfl) | exact AY.old1k 1 rfl rfl rfl (by first | assumption | rfl) | exact AY.old1k 2 rfl rfl rfl (by first | assumption | rfl) | exact AY.oldNk 0 rfl rfl rfl (by first | omega | (simp;omega)) (by first | assumption | rfl) | exact AY.oldNk 1 rfl rfl rfl (by first | omega | (simp;omega)) (by first | assumption | rfl)) (by simp only[AV.put];rfl) ?_ | (refine AL.nilK (hK _ _ ?_);clear hK K) | (refine AE.nil (hK _ ?_);clear hK K) | refine W.k rfl rfl (by simp only[AV.put];rfl) ?_ | refine AL.unguardS rfl rfl ?_ | refine AL.al hF rfl rfl rfl (by first | (simp only[Value.cells,List.map_cons,List.map_nil];rfl) | rfl) (fun b=>⟨_,(by simp only[AV.put];rfl),?_⟩) | refine AL.st1 hF rfl rfl rfl rfl (by simp only[evO,AV.get];rfl) (by first | exact qlD | exact qlE | exact qlF | exact qlG | exact qlH | exact qlI | exact qlJ | exact qlK) (by rfl) rfl (by rfl) (by first | (simp;done) | (simp;omega) | omega) (by simp only[List.set];rfl) ?_ | refine AL.stW hF rfl rfl rfl rfl (by simp only[evO,AV.get];rfl) (by first | exact qlD | exact qlE | exact qlF | exact qlG | exact qlH | exact qlI | exact qlJ | exact qlK) (by rfl) (by rfl) (by rfl) (by first | rfl | simp) (by simp only[List.set];rfl) ?_) | (with_reducible refine Awp.id_ ?_;first | refine Awp.seq ?_ | refine Awp.regionK (by first | (simp only[AV.putO,AV.put];rfl) | rfl) (fun K hK=>?_) | refine Awp.drawE (by first | (simp only[AV.putO,AV.put];rfl) | rfl) mixed rfl (by kernel_rfl) (fun K hK=>?_) | refine Awp.block ?_ | refine Awp.skip ?_ | refine Awp.exit ?_ | refine Awp.ret ?_ | refine Awp.condT rfl ?_ | refine Awp.condF rfl ?_) | refine qpe ?_ | refine qpf ?_ | refine qpg ?_ | refine qkQ ?_ | refine qkR ?_ | refine qkS ?_ | refine qkT rfl ?_ | ((first | ((first | with_reducible refine AL.id_ ?_ | with_reducible refine AE.id_ ?_);(fail_if_success refine W.on rfl ?_);refine W.p rfl rfl (by simp only[AV.put];rfl) (by simp only[AV.put];rfl) (fun hb=>?_) (fun hb=>?_)) | (with_reducible refine Awp.id_ ?_;refine Awp.cond _ rfl (fun hb=>?_) (fun hb=>?_)))<;>(try simp only[z1,z2,z3,z4,z5,z6,z7,z8,y5,y6,y7,y8,z9,x1,x2,x3,x4,x5,x6,x7,x8] at hb;try (exfalso;omega)))))
  refine Awp.loopM [16,17,18,19,20,21,22,23,24,25,26,27,28,29] [5] (fun n vs H=>∃(j:Nat) (X3:Nat→Prop),n+j=(hi+1-lo).toNat∧vs=[.int (lo+j)]∧H=[.blk b 95 [.int hu,.int lo,.int hi],.nodef,.ghost X3 (J (qjF ss k+j))]) (hi+1-lo).toNat ⟨0,X',by omega,by simp;rfl,rfl⟩ ?_
  rintro n1 ju1 vs1 H1 ⟨j,X3,hj,rfl,rfl⟩
  (refine Awp.slots (by first | (simp only[putl,mask,AV.put];rfl) | rfl) ?_)
  by_cases hlt2:j<(hi+1-lo).toNat
  ·have hle:lo+j≤hi:=by omega
   have hye:=hYk.out j hlt2
   (repeat' (first | ((first | with_reducible refine AL.id_ ?_ | with_reducible refine AE.id_ ?_);first | refine AL.build0 hF rfl rfl rfl (fun b=>⟨_,(by simp only[AV.put];rfl),?_⟩) | refine W.s rfl rfl (by first | exact AY.bx rfl (by simp only[evO,AV.get];rfl) rfl | exact AY.mkFn rfl (by simp only[List.map_cons,List.map_nil,evO,AV.get];rfl) | exact AY.mkFn1 rfl (by simp only[evO,AV.get];rfl) (by simp only[List.map_cons,List.map_nil,evO,AV.get];rfl) | exact AY.build rfl (by simp only[List.map_cons,List.map_nil,evO,AV.get];rfl) (by simp only[List.map_cons,List.map_nil];repeat (first | exact Places.nil | apply Places.cons)) (by first | (simp only[zip3,qdm,qe5,qbT,qy,qhl,List.map_cons,List.map_nil,List.length_cons,List.length_nil,List.take_succ_cons,List.take_zero,List.drop_succ_cons,List.drop_zero,List.replicate_succ,List.replicate_zero,List.cons_append,List.nil_append,List.append_nil,List.drop_nil,List.take_nil,List.toList_toArray,Nat.sub_zero,Nat.reduceSub,Nat.reduceAdd,Nat.reduceMul,Nat.zero_mul,Nat.one_mul,Nat.mul_one,Nat.zero_add,Nat.le_refl,Nat.reduceLeDiff,and_self,true_and,and_true,if_true];rfl) | rfl) | exact AY.buildS rfl (by simp only[List.map_cons,List.map_nil,evO,AV.get];rfl) (by first | rfl | decide) (by omega) (by first | (simp only[zip3,qdm,qe5,qbT,qy,qhl,List.map_cons,List.map_nil,List.length_cons,List.length_nil,List.take_succ_cons,List.take_zero,List.drop_succ_cons,List.drop_zero,List.replicate_succ,List.replicate_zero,List.cons_append,List.nil_append,List.append_nil,List.drop_nil,List.take_nil,List.toList_toArray,Nat.sub_zero,Nat.reduceSub,Nat.reduceAdd,Nat.reduceMul,Nat.zero_mul,Nat.one_mul,Nat.mul_one,Nat.zero_add,Nat.le_refl,Nat.reduceLeDiff,and_self,true_and,and_true,if_true];rfl) | rfl) (by first | (simp only[zip3,qdm,qe5,qbT,qy,qhl,List.map_cons,List.map_nil,List.length_cons,List.length_nil,List.take_succ_cons,List.take_zero,List.drop_succ_cons,List.drop_zero,List.replicate_succ,List.replicate_zero,List.cons_append,List.nil_append,List.append_nil,List.drop_nil,List.take_nil,List.toList_toArray,Nat.sub_zero,Nat.reduceSub,Nat.reduceAdd,Nat.reduceMul,Nat.zero_mul,Nat.one_mul,Nat.mul_one,Nat.zero_add,Nat.le_refl,Nat.reduceLeDiff,and_self,true_and,and_true,if_true];rfl) | rfl) | exact hEQ rfl rfl rfl | exact Step2.sound (by first | (((first | (apply Step2.a;constructor) | (apply Step2.b;constructor))<;>first | infer_instance | skip)<;>(first | infer_instance | (refine w64c ?_;omega) | (refine qty ?_;omega) | (refine qq6 ?_;omega) | (refine qq7 ?_;omega) | (refine qtv ?_;omega) | ((repeat (first | exact .head _ | refine .tail _ ?_));done) | assumption | (simp only[List.drop_succ_cons,List.drop_zero,List.length_map,Nat.zero_add,Nat.mul_one];rfl) | rfl | omega | (simp;done))) | fail) rfl | exact AY.call rfl rfl _ rfl (by fail) | exact AY.slice1 rfl rfl rfl (by rfl) (by first | (simp;done) | fail) | exact AY.callF rfl _ _ rfl _ rfl (by fail) | exact AY.old1k 0 rfl rfl rfl (by first | assumption | rfl) | exact AY.old1k 1 rfl rfl rfl (by first | assumption | rfl) | exact AY.old1k 2 rfl rfl rfl (by first | assumption | rfl) | exact AY.oldNk 0 rfl rfl rfl (by first | omega | (simp;omega)) (by first | assumption | rfl) | exact AY.oldNk 1 rfl rfl rfl (by first | omega | (simp;omega)) (by first | assumption | rfl)) (by simp only[AV.put];rfl) ?_ | (refine AL.nilK (hK _ _ ?_);clear hK K) | (refine AE.nil (hK _ ?_);clear hK K) | refine W.k rfl rfl (by simp only[AV.put];rfl) ?_ | refine AL.unguardS rfl rfl ?_ | refine AL.al hF rfl rfl rfl (by first | (simp only[Value.cells,List.map_cons,List.map_nil];rfl) | rfl) (fun b=>⟨_,(by simp only[AV.put];rfl),?_⟩) | refine AL.st1 hF rfl rfl rfl rfl (by simp only[evO,AV.get];rfl) (by first | exact qlD | exact qlE | exact qlF | exact qlG | exact qlH | exact qlI | exact qlJ | exact qlK) (by rfl) rfl (by rfl) (by first | (simp;done) | (simp;omega) | omega) (by simp only[List.set];rfl) ?_ | refine AL.stW hF rfl rfl rfl rfl (by simp only[evO,AV.get];rfl) (by first | exact qlD | exact qlE | exact qlF | exact qlG | exact qlH | exact qlI | exact qlJ | exact qlK) (by rfl) (by rfl) (by rfl) (by first | rfl | simp) (by simp only[List.set];rfl) ?_) | (with_reducible refine Awp.id_ ?_;first | refine Awp.seq ?_ | refine Awp.regionK (by first | (simp only[AV.putO,AV.put];rfl) | rfl) (fun K hK=>?_) | refine Awp.drawE (by first | (simp only[AV.putO,AV.put];rfl) | rfl) mixed rfl (by kernel_rfl) (fun K hK=>?_) | refine Awp.block ?_ | refine Awp.skip ?_ | refine Awp.exit ?_ | refine Awp.ret ?_ | refine Awp.condT rfl ?_ | refine Awp.condF rfl ?_) | refine qpe ?_ | refine qpf ?_ | refine qpg ?_ | refine qkQ ?_ | refine qkR ?_ | refine qkS ?_ | refine qkT rfl ?_ | ((first | ((first | with_reducible refine AL.id_ ?_ | with_reducible refine AE.id_ ?_);(fail_if_success refine W.on rfl ?_);refine W.p rfl rfl (by simp only[AV.put];rfl) (by simp only[AV.put];rfl) (fun hb=>?_) (fun hb=>?_)) | (with_reducible refine Awp.id_ ?_;refine Awp.cond _ rfl (fun hb=>?_) (fun hb=>?_)))<;>(try simp only[z1,z2,z3,z4,z5,z6,z7,z8,y5,y6,y7,y8,z9,x1,x2,x3,x4,x5,x6,x7,x8] at hb;try (exfalso;omega)))))
   have hgho:∀i e,([HE.blk b 95 [.int hu,.int lo,.int hi],.nodef,.ghost X3 (J (qjF ss k+j))])[i]?=some e→e.isGhost→i=2:=fun i e h1 h2=>by
    match i,h1 with
    | 0,h1=>cases h1;exact h2.elim
    | 1,h1=>cases h1;exact h2.elim
    | 2,_=>rfl
   refine AL.yield 2 rfl rfl rfl rfl _ rfl rfl hgho (by simp) (fun b hA=>hT b fun h=>(hA.1 h).1) hye (hcJ _) hcx (fun X4=>?_) (fun X4=>?_)
   ·refine AL.norm (by simp only[AV.put];rfl) rfl ?_
    (repeat' (first | ((first | with_reducible refine AL.id_ ?_ | with_reducible refine AE.id_ ?_);first | refine AL.build0 hF rfl rfl rfl (fun b=>⟨_,(by simp only[AV.put];rfl),?_⟩) | refine W.s rfl rfl (by first | exact AY.bx rfl (by simp only[evO,AV.get];rfl) rfl | exact AY.mkFn rfl (by simp only[List.map_cons,List.map_nil,evO,AV.get];rfl) | exact AY.mkFn1 rfl (by simp only[evO,AV.get];rfl) (by simp only[List.map_cons,List.map_nil,evO,AV.get];rfl) | exact AY.build rfl (by simp only[List.map_cons,List.map_nil,evO,AV.get];rfl) (by simp only[List.map_cons,List.map_nil];repeat (first | exact Places.nil | apply Places.cons)) (by first | (simp only[zip3,qdm,qe5,qbT,qy,qhl,List.map_cons,List.map_nil,List.length_cons,List.length_nil,List.take_succ_cons,List.take_zero,List.drop_succ_cons,List.drop_zero,List.replicate_succ,List.replicate_zero,List.cons_append,List.nil_append,List.append_nil,List.drop_nil,List.take_nil,List.toList_toArray,Nat.sub_zero,Nat.reduceSub,Nat.reduceAdd,Nat.reduceMul,Nat.zero_mul,Nat.one_mul,Nat.mul_one,Nat.zero_add,Nat.le_refl,Nat.reduceLeDiff,and_self,true_and,and_true,if_true];rfl) | rfl) | exact AY.buildS rfl (by simp only[List.map_cons,List.map_nil,evO,AV.get];rfl) (by first | rfl | decide) (by omega) (by first | (simp only[zip3,qdm,qe5,qbT,qy,qhl,List.map_cons,List.map_nil,List.length_cons,List.length_nil,List.take_succ_cons,List.take_zero,List.drop_succ_cons,List.drop_zero,List.replicate_succ,List.replicate_zero,List.cons_append,List.nil_append,List.append_nil,List.drop_nil,List.take_nil,List.toList_toArray,Nat.sub_zero,Nat.reduceSub,Nat.reduceAdd,Nat.reduceMul,Nat.zero_mul,Nat.one_mul,Nat.mul_one,Nat.zero_add,Nat.le_refl,Nat.reduceLeDiff,and_self,true_and,and_true,if_true];rfl) | rfl) (by first | (simp only[zip3,qdm,qe5,qbT,qy,qhl,List.map_cons,List.map_nil,List.length_cons,List.length_nil,List.take_succ_cons,List.take_zero,List.drop_succ_cons,List.drop_zero,List.replicate_succ,List.replicate_zero,List.cons_append,List.nil_append,List.append_nil,List.drop_nil,List.take_nil,List.toList_toArray,Nat.sub_zero,Nat.reduceSub,Nat.reduceAdd,Nat.reduceMul,Nat.zero_mul,Nat.one_mul,Nat.mul_one,Nat.zero_add,Nat.le_refl,Nat.reduceLeDiff,and_self,true_and,and_true,if_true];rfl) | rfl) | exact hEQ rfl rfl rfl | exact Step2.sound (by first | (((first | (apply Step2.a;constructor) | (apply Step2.b;constructor))<;>first | infer_instance | skip)<;>(first | infer_instance | (refine w64c ?_;omega) | (refine qty ?_;omega) | (refine qq6 ?_;omega) | (refine qq7 ?_;omega) | (refine qtv ?_;omega) | ((repeat (first | exact .head _ | refine .tail _ ?_));done) | assumption | (simp only[List.drop_succ_cons,List.drop_zero,List.length_map,Nat.zero_add,Nat.mul_one];rfl) | rfl | omega | (simp;done))) | fail) rfl | exact AY.call rfl rfl _ rfl (by fail) | exact AY.slice1 rfl rfl rfl (by rfl) (by first | (simp;done) | fail) | exact AY.callF rfl _ _ rfl _ rfl (by fail) | exact AY.old1k 0 rfl rfl rfl (by first | assumption | rfl) | exact AY.old1k 1 rfl rfl rfl (by first | assumption | rfl) | exact AY.old1k 2 rfl rfl rfl (by first | assumption | rfl) | exact AY.oldNk 0 rfl rfl rfl (by first | omega | (simp;omega)) (by first | assumption | rfl) | exact AY.oldNk 1 rfl rfl rfl (by first | omega | (simp;omega)) (by first | assumption | rfl)) (by simp only[AV.put];rfl) ?_ | (refine AL.nilK (hK _ _ ?_);clear hK K) | (refine AE.nil (hK _ ?_);clear hK K) | refine W.k rfl rfl (by simp only[AV.put];rfl) ?_ | refine AL.unguardS rfl rfl ?_ | refine AL.al hF rfl rfl rfl (by first | (simp only[Value.cells,List.map_cons,List.map_nil];rfl) | rfl) (fun b=>⟨_,(by simp only[AV.put];rfl),?_⟩) | refine AL.st1 hF rfl rfl rfl rfl (by simp only[evO,AV.get];rfl) (by first | exact qlD | exact qlE | exact qlF | exact qlG | exact qlH | exact qlI | exact qlJ | exact qlK) (by rfl) rfl (by rfl) (by first | (simp;done) | (simp;omega) | omega) (by simp only[List.set];rfl) ?_ | refine AL.stW hF rfl rfl rfl rfl (by simp only[evO,AV.get];rfl) (by first | exact qlD | exact qlE | exact qlF | exact qlG | exact qlH | exact qlI | exact qlJ | exact qlK) (by rfl) (by rfl) (by rfl) (by first | rfl | simp) (by simp only[List.set];rfl) ?_) | (with_reducible refine Awp.id_ ?_;first | refine Awp.seq ?_ | refine Awp.regionK (by first | (simp only[AV.putO,AV.put];rfl) | rfl) (fun K hK=>?_) | refine Awp.drawE (by first | (simp only[AV.putO,AV.put];rfl) | rfl) mixed rfl (by kernel_rfl) (fun K hK=>?_) | refine Awp.block ?_ | refine Awp.skip ?_ | refine Awp.exit ?_ | refine Awp.ret ?_ | refine Awp.condT rfl ?_ | refine Awp.condF rfl ?_) | refine qpe ?_ | refine qpf ?_ | refine qpg ?_ | refine qkQ ?_ | refine qkR ?_ | refine qkS ?_ | refine qkT rfl ?_ | ((first | ((first | with_reducible refine AL.id_ ?_ | with_reducible refine AE.id_ ?_);(fail_if_success refine W.on rfl ?_);refine W.p rfl rfl (by simp only[AV.put];rfl) (by simp only[AV.put];rfl) (fun hb=>?_) (fun hb=>?_)) | (with_reducible refine Awp.id_ ?_;refine Awp.cond _ rfl (fun hb=>?_) (fun hb=>?_)))<;>(try simp only[z1,z2,z3,z4,z5,z6,z7,z8,y5,y6,y7,y8,z9,x1,x2,x3,x4,x5,x6,x7,x8] at hb;try (exfalso;omega)))))
    (refine qGp (n1-1) (by first | (simp only[AV.putO,AV.put];rfl) | rfl) (by omega) ?_ (by simp only[List.map,AV.get,mask,putl,AV.put]))
    exact ⟨j+1,X4,by omega,qGh (by omega),rfl⟩
   ·refine AL.norm (by simp only[AV.put];rfl) rfl ?_
    (repeat' (first | ((first | with_reducible refine AL.id_ ?_ | with_reducible refine AE.id_ ?_);first | refine AL.build0 hF rfl rfl rfl (fun b=>⟨_,(by simp only[AV.put];rfl),?_⟩) | refine W.s rfl rfl (by first | exact AY.bx rfl (by simp only[evO,AV.get];rfl) rfl | exact AY.mkFn rfl (by simp only[List.map_cons,List.map_nil,evO,AV.get];rfl) | exact AY.mkFn1 rfl (by simp only[evO,AV.get];rfl) (by simp only[List.map_cons,List.map_nil,evO,AV.get];rfl) | exact AY.build rfl (by simp only[List.map_cons,List.map_nil,evO,AV.get];rfl) (by simp only[List.map_cons,List.map_nil];repeat (first | exact Places.nil | apply Places.cons)) (by first | (simp only[zip3,qdm,qe5,qbT,qy,qhl,List.map_cons,List.map_nil,List.length_cons,List.length_nil,List.take_succ_cons,List.take_zero,List.drop_succ_cons,List.drop_zero,List.replicate_succ,List.replicate_zero,List.cons_append,List.nil_append,List.append_nil,List.drop_nil,List.take_nil,List.toList_toArray,Nat.sub_zero,Nat.reduceSub,Nat.reduceAdd,Nat.reduceMul,Nat.zero_mul,Nat.one_mul,Nat.mul_one,Nat.zero_add,Nat.le_refl,Nat.reduceLeDiff,and_self,true_and,and_true,if_true];rfl) | rfl) | exact AY.buildS rfl (by simp only[List.map_cons,List.map_nil,evO,AV.get];rfl) (by first | rfl | decide) (by omega) (by first | (simp only[zip3,qdm,qe5,qbT,qy,qhl,List.map_cons,List.map_nil,List.length_cons,List.length_nil,List.take_succ_cons,List.take_zero,List.drop_succ_cons,List.drop_zero,List.replicate_succ,List.replicate_zero,List.cons_append,List.nil_append,List.append_nil,List.drop_nil,List.take_nil,List.toList_toArray,Nat.sub_zero,Nat.reduceSub,Nat.reduceAdd,Nat.reduceMul,Nat.zero_mul,Nat.one_mul,Nat.mul_one,Nat.zero_add,Nat.le_refl,Nat.reduceLeDiff,and_self,true_and,and_true,if_true];rfl) | rfl) (by first | (simp only[zip3,qdm,qe5,qbT,qy,qhl,List.map_cons,List.map_nil,List.length_cons,List.length_nil,List.take_succ_cons,List.take_zero,List.drop_succ_cons,List.drop_zero,List.replicate_succ,List.replicate_zero,List.cons_append,List.nil_append,List.append_nil,List.drop_nil,List.take_nil,List.toList_toArray,Nat.sub_zero,Nat.reduceSub,Nat.reduceAdd,Nat.reduceMul,Nat.zero_mul,Nat.one_mul,Nat.mul_one,Nat.zero_add,Nat.le_refl,Nat.reduceLeDiff,and_self,true_and,and_true,if_true];rfl) | rfl) | exact hEQ rfl rfl rfl | exact Step2.sound (by first | (((first | (apply Step2.a;constructor) | (apply Step2.b;constructor))<;>first | infer_instance | skip)<;>(first | infer_instance | (refine w64c ?_;omega) | (refine qty ?_;omega) | (refine qq6 ?_;omega) | (refine qq7 ?_;omega) | (refine qtv ?_;omega) | ((repeat (first | exact .head _ | refine .tail _ ?_));done) | assumption | (simp only[List.drop_succ_cons,List.drop_zero,List.length_map,Nat.zero_add,Nat.mul_one];rfl) | rfl | omega | (simp;done))) | fail) rfl | exact AY.call rfl rfl _ rfl (by fail) | exact AY.slice1 rfl rfl rfl (by rfl) (by first | (simp;done) | fail) | exact AY.callF rfl _ _ rfl _ rfl (by fail) | exact AY.old1k 0 rfl rfl rfl (by first | assumption | rfl) | exact AY.old1k 1 rfl rfl rfl (by first | assumption | rfl) | exact AY.old1k 2 rfl rfl rfl (by first | assumption | rfl) | exact AY.oldNk 0 rfl rfl rfl (by first | omega | (simp;omega)) (by first | assumption | rfl) | exact AY.oldNk 1 rfl rfl rfl (by first | omega | (simp;omega)) (by first | assumption | rfl)) (by simp only[AV.put];rfl) ?_ | (refine AL.nilK (hK _ _ ?_);clear hK K) | (refine AE.nil (hK _ ?_);clear hK K) | refine W.k rfl rfl (by simp only[AV.put];rfl) ?_ | refine AL.unguardS rfl rfl ?_ | refine AL.al hF rfl rfl rfl (by first | (simp only[Value.cells,List.map_cons,List.map_nil];rfl) | rfl) (fun b=>⟨_,(by simp only[AV.put];rfl),?_⟩) | refine AL.st1 hF rfl rfl rfl rfl (by simp only[evO,AV.get];rfl) (by first | exact qlD | exact qlE | exact qlF | exact qlG | exact qlH | exact qlI | exact qlJ | exact qlK) (by rfl) rfl (by rfl) (by first | (simp;done) | (simp;omega) | omega) (by simp only[List.set];rfl) ?_ | refine AL.stW hF rfl rfl rfl rfl (by simp only[evO,AV.get];rfl) (by first | exact qlD | exact qlE | exact qlF | exact qlG | exact qlH | exact qlI | exact qlJ | exact qlK) (by rfl) (by rfl) (by rfl) (by first | rfl | simp) (by simp only[List.set];rfl) ?_) | (with_reducible refine Awp.id_ ?_;first | refine Awp.seq ?_ | refine Awp.regionK (by first | (simp only[AV.putO,AV.put];rfl) | rfl) (fun K hK=>?_) | refine Awp.drawE (by first | (simp only[AV.putO,AV.put];rfl) | rfl) mixed rfl (by kernel_rfl) (fun K hK=>?_) | refine Awp.block ?_ | refine Awp.skip ?_ | refine Awp.exit ?_ | refine Awp.ret ?_ | refine Awp.condT rfl ?_ | refine Awp.condF rfl ?_) | refine qpe ?_ | refine qpf ?_ | refine qpg ?_ | refine qkQ ?_ | refine qkR ?_ | refine qkS ?_ | refine qkT rfl ?_ | ((first | ((first | with_reducible refine AL.id_ ?_ | with_reducible refine AE.id_ ?_);(fail_if_success refine W.on rfl ?_);refine W.p rfl rfl (by simp only[AV.put];rfl) (by simp only[AV.put];rfl) (fun hb=>?_) (fun hb=>?_)) | (with_reducible refine Awp.id_ ?_;refine Awp.cond _ rfl (fun hb=>?_) (fun hb=>?_)))<;>(try simp only[z1,z2,z3,z4,z5,z6,z7,z8,y5,y6,y7,y8,z9,x1,x2,x3,x4,x5,x6,x7,x8] at hb;try (exfalso;omega)))))
    exact qC1 rfl ⟨X4,.inr (List.mem_of_getElem? (i:=2) rfl)⟩
  ·have hle:¬(lo+j≤hi):=by omega
   (repeat' (first | ((first | with_reducible refine AL.id_ ?_ | with_reducible refine AE.id_ ?_);first | refine AL.build0 hF rfl rfl rfl (fun b=>⟨_,(by simp only[AV.put];rfl),?_⟩) | refine W.s rfl rfl (by first | exact AY.bx rfl (by simp only[evO,AV.get];rfl) rfl | exact AY.mkFn rfl (by simp only[List.map_cons,List.map_nil,evO,AV.get];rfl) | exact AY.mkFn1 rfl (by simp only[evO,AV.get];rfl) (by simp only[List.map_cons,List.map_nil,evO,AV.get];rfl) | exact hEQ rfl rfl rfl | exact Step2.sound (by first | (((first | (apply Step2.a;constructor) | (apply Step2.b;constructor))<;>first | infer_instance | skip)<;>(first | infer_instance | (refine w64c ?_;omega) | (refine qty ?_;omega) | (refine qq6 ?_;omega) | (refine qq7 ?_;omega) | (refine qtv ?_;omega) | ((repeat (first | exact .head _ | refine .tail _ ?_));done) | assumption | (simp only[List.drop_succ_cons,List.drop_zero,List.length_map,Nat.zero_add,Nat.mul_one];rfl) | rfl | omega | (simp;done))) | fail) rfl | exact AY.call rfl rfl _ rfl (by fail) | exact AY.slice1 rfl rfl rfl (by rfl) (by first | (simp;done) | fail) | exact AY.callF rfl _ _ rfl _ rfl (by fail) | exact AY.old1k 0 rfl rfl rfl (by first | assumption | rfl) | exact AY.old1k 1 rfl rfl rfl (by first | assumption | rfl) | exact AY.old1k 2 rfl rfl rfl (by first | assumption | rfl) | exact AY.oldNk 0 rfl rfl rfl (by first | omega | (simp;omega)) (by first | assumption | rfl) | exact AY.oldNk 1 rfl rfl rfl (by first | omega | (simp;omega)) (by first | assumption | rfl)) (by simp only[AV.put];rfl) ?_ | (refine AL.nilK (hK _ _ ?_);clear hK K) | (refine AE.nil (hK _ ?_);clear hK K) | refine W.k rfl rfl (by simp only[AV.put];rfl) ?_ | refine AL.unguardS rfl rfl ?_ | refine AL.al hF rfl rfl rfl (by first | (simp only[Value.cells,List.map_cons,List.map_nil];rfl) | rfl) (fun b=>⟨_,(by simp only[AV.put];rfl),?_⟩) | refine AL.st1 hF rfl rfl rfl rfl (by simp only[evO,AV.get];rfl) (by first | exact qlD | exact qlE | exact qlF | exact qlG | exact qlH | exact qlI | exact qlJ | exact qlK) (by rfl) rfl (by rfl) (by first | (simp;done) | (simp;omega) | omega) (by simp only[List.set];rfl) ?_ | refine AL.stW hF rfl rfl rfl rfl (by simp only[evO,AV.get];rfl) (by first | exact qlD | exact qlE | exact qlF | exact qlG | exact qlH | exact qlI | exact qlJ | exact qlK) (by rfl) (by rfl) (by rfl) (by first | rfl | simp) (by simp only[List.set];rfl) ?_) | (with_reducible refine Awp.id_ ?_;first | refine Awp.seq ?_ | refine Awp.regionK (by first | (simp only[AV.putO,AV.put];rfl) | rfl) (fun K hK=>?_) | refine Awp.drawE (by first | (simp only[AV.putO,AV.put];rfl) | rfl) mixed rfl (by kernel_rfl) (fun K hK=>?_) | refine Awp.block ?_ | refine Awp.skip ?_ | refine Awp.exit ?_ | refine Awp.ret ?_ | refine Awp.condT rfl ?_ | refine Awp.condF rfl ?_) | refine qpe ?_ | refine qpf ?_ | refine qpg ?_ | refine qkQ ?_ | refine qkR ?_ | refine qkS ?_ | refine qkT rfl ?_ | ((first | ((first | with_reducible refine AL.id_ ?_ | with_reducible refine AE.id_ ?_);(fail_if_success refine W.on rfl ?_);refine W.p rfl rfl (by simp only[AV.put];rfl) (by simp only[AV.put];rfl) (fun hb=>?_) (fun hb=>?_)) | (with_reducible refine Awp.id_ ?_;refine Awp.cond _ rfl (fun hb=>?_) (fun hb=>?_)))<;>(try simp only[z1,z2,z3,z4,z5,z6,z7,z8,y5,y6,y7,y8,z9,x1,x2,x3,x4,x5,x6,x7,x8] at hb;try (exfalso;omega)))))
   (refine qEx (n-1) (List.sublist_cons_self _ _) (by first | (simp only[AV.putO,AV.put];rfl) | rfl) (by omega) ?_ (by simp only[List.map,AV.get,mask,putl,AV.put]))
   exact ⟨k+1,X3,by omega,qGh (by omega),by rw[hNk,show (hi+1-lo).toNat=j by omega]⟩
 ·(repeat' (first | ((first | with_reducible refine AL.id_ ?_ | with_reducible refine AE.id_ ?_);first | refine AL.build0 hF rfl rfl rfl (fun b=>⟨_,(by simp only[AV.put];rfl),?_⟩) | refine W.s rfl rfl (by first | exact AY.bx rfl (by simp only[evO,AV.get];rfl) rfl | exact AY.mkFn rfl (by simp only[List.map_cons,List.map_nil,evO,AV.get];rfl) | exact AY.mkFn1 rfl (by simp only[evO,AV.get];rfl) (by simp only[List.map_cons,List.map_nil,evO,AV.get];rfl) | exact hEQ rfl rfl rfl | exact Step2.sound (by first | (((first | (apply Step2.a;constructor) | (apply Step2.b;constructor))<;>first | infer_instance | skip)<;>(first | infer_instance | (refine w64c ?_;omega) | (refine qty ?_;omega) | (refine qq6 ?_;omega) | (refine qq7 ?_;omega) | (refine qtv ?_;omega) | ((repeat (first | exact .head _ | refine .tail _ ?_));done) | assumption | (simp only[List.drop_succ_cons,List.drop_zero,List.length_map,Nat.zero_add,Nat.mul_one];rfl) | rfl | omega | (simp;done))) | fail) rfl | exact AY.call rfl rfl _ rfl (by fail) | exact AY.slice1 rfl rfl rfl (by rfl) (by first | (simp;done) | fail) | exact AY.callF rfl _ _ rfl _ rfl (by fail) | exact AY.old1k 0 rfl rfl rfl (by first | assumption | rfl) | exact AY.old1k 1 rfl rfl rfl (by first | assumption | rfl) | exact AY.old1k 2 rfl rfl rfl (by first | assumption | rfl) | exact AY.oldNk 0 rfl rfl rfl (by first | omega | (simp;omega)) (by first | assumption | rfl) | exact AY.oldNk 1 rfl rfl rfl (by first | omega | (simp;omega)) (by first | assumption | rfl)) (by simp only[AV.put];rfl) ?_ | (refine AL.nilK (hK _ _ ?_);clear hK K) | (refine AE.nil (hK _ ?_);clear hK K) | refine W.k rfl rfl (by simp only[AV.put];rfl) ?_ | refine AL.unguardS rfl rfl ?_ | refine AL.al hF rfl rfl rfl (by first | (simp only[Value.cells,List.map_cons,List.map_nil];rfl) | rfl) (fun b=>⟨_,(by simp only[AV.put];rfl),?_⟩) | refine AL.st1 hF rfl rfl rfl rfl (by simp only[evO,AV.get];rfl) (by first | exact qlD | exact qlE | exact qlF | exact qlG | exact qlH | exact qlI | exact qlJ | exact qlK) (by rfl) rfl (by rfl) (by first | (simp;done) | (simp;omega) | omega) (by simp only[List.set];rfl) ?_ | refine AL.stW hF rfl rfl rfl rfl (by simp only[evO,AV.get];rfl) (by first | exact qlD | exact qlE | exact qlF | exact qlG | exact qlH | exact qlI | exact qlJ | exact qlK) (by rfl) (by rfl) (by rfl) (by first | rfl | simp) (by simp only[List.set];rfl) ?_) | (with_reducible refine Awp.id_ ?_;first | refine Awp.seq ?_ | refine Awp.regionK (by first | (simp only[AV.putO,AV.put];rfl) | rfl) (fun K hK=>?_) | refine Awp.drawE (by first | (simp only[AV.putO,AV.put];rfl) | rfl) mixed rfl (by kernel_rfl) (fun K hK=>?_) | refine Awp.block ?_ | refine Awp.skip ?_ | refine Awp.exit ?_ | refine Awp.ret ?_ | refine Awp.condT rfl ?_ | refine Awp.condF rfl ?_) | refine qpe ?_ | refine qpf ?_ | refine qpg ?_ | refine qkQ ?_ | refine qkR ?_ | refine qkS ?_ | refine qkT rfl ?_ | ((first | ((first | with_reducible refine AL.id_ ?_ | with_reducible refine AE.id_ ?_);(fail_if_success refine W.on rfl ?_);refine W.p rfl rfl (by simp only[AV.put];rfl) (by simp only[AV.put];rfl) (fun hb=>?_) (fun hb=>?_)) | (with_reducible refine Awp.id_ ?_;refine Awp.cond _ rfl (fun hb=>?_) (fun hb=>?_)))<;>(try simp only[z1,z2,z3,z4,z5,z6,z7,z8,y5,y6,y7,y8,z9,x1,x2,x3,x4,x5,x6,x7,x8] at hb;try (exfalso;omega)))))
  exact qEz rfl ⟨X',.inl (by rw[show ss.length=k by omega];exact List.mem_of_getElem? (i:=1) rfl)⟩
def qzd:Itr Tryz.prog:=⟨183,[T91],[T158],fun x=>qrj x.1.2.2.2.2,fun x l h=>qFm x l h⟩
section
def qqn(n:Nat):CL Tryz.prog:=⟨[],[],0,fun _=>false⟩
def qun(n:Nat):Nat→St→PT (DEx×St):=fun _ _=>.fail
theorem qAz(n:Nat):qbi (qqn n).c (qv Tryz.f152) 0=[]:=by kernel_rfl
theorem qAA:Tryz.f152.body=some (qv Tryz.f152):=by kernel_rfl
abbrev qrk:List Ar:=[.d T91]
abbrev qov:List Ty:=[T91]
def qvj(n:Nat)(x:qgT qrk):Option (qT qov):=(qgi tab (qqn n) (qun n) (qv Tryz.f152) 0 (qlg qrk 4 x)).run (qGg 2 183 qov)
def qvk(n:Nat):Ct Tryz.prog:=⟨152,qrk,.fb 183 qov,qvj n,fun _ _ h=>qHm (B:=tab) (cs:=qqn n) (lo:=qun n) (i:=2) (g:=183) (caps:=qov) Tryz.func152 (by kernel_rfl) qAA (by kernel_rfl) (qkW (qAz n) all_nil) h⟩
def qs0(n:Nat):CL Tryz.prog:=⟨[],[],0,nof⟩
def qow(n:Nat):Cw Tryz.prog:=mkW tab (qs0 n) [] Tryz.func182 [.v (.t 1) T158,.obj (.t 0) true 129 5,.v (.c 0 0) T126,.row (.c 0 2) true T91 91,.row (.c 0 3) true T91 91,.mpi (.c 0 4) true T158 T3] 2 [[.v (.t 0) T3,.obj (.t 1) true 129 5,.v (.c 0 0) T126,.row (.c 0 2) true T91 91,.row (.c 0 3) true T91 91,.mpi (.c 0 4) true T158 T3]] (by kernel_rfl)
def qm5(n:Nat):CL Tryz.prog:=⟨[qvk n],[qow n],0,nof⟩
def qm6(n:Nat):LK Tryz.prog false:=mkG tab (qm5 n) [] Tryz.f151 [true,false,true,false] 0 9 [10] qzd [.obj (.t 0) true 129 5,.v (.c 0 0) T126,.row (.c 0 2) true T91 91,.row (.c 0 3) true T91 91,.mpi (.c 0 4) true T158 T3,.obj (.t 2) false 121 1,.pal (.c 4 0) 0 0,.obj (.t 3) false 91 5,.v (.c 5 0) T91,.obj (.t 4) false 158 2,.v (.c 6 0) T158,.obj (.t 5) false 3 1,.v (.c 7 0) T3] [(.ret,[.obj (.t 0) true 129 5,.v (.c 0 0) T126,.row (.c 0 2) true T91 91,.row (.c 0 3) true T91 91,.mpi (.c 0 4) true T158 T3,.obj (.t 4) false 158 2,.v (.c 4 0) T158,.obj (.t 5) false 3 1,.v (.c 5 0) T3])] (by kernel_rfl)
def qnS(n:Nat):Cw Tryz.prog:=mkW tab (qm5 n) [qm6 n] Tryz.func151 [.v (.t 1) T91,.obj (.t 0) true 129 5,.v (.c 0 0) T126,.row (.c 0 2) true T91 91,.row (.c 0 3) true T91 91,.mpi (.c 0 4) true T158 T3] 2 [[.v (.t 0) T158,.v (.t 1) T3,.obj (.t 2) true 129 5,.v (.c 0 0) T126,.row (.c 0 2) true T91 91,.row (.c 0 3) true T91 91,.mpi (.c 0 4) true T158 T3]] (by kernel_rfl)
def qlz(n:Nat):CL Tryz.prog:=⟨[qvk n],[qnS n],0,nof⟩
def qo4(n:Nat):LK Tryz.prog false:=mkG tab (qlz n) [] Tryz.f120 [true,true,false,true,false,false,true,true,false,false,true,true,true,true,true,false] 1 60 [61] qzd [.nilf (.t 2),.v (.t 17) T35,.v (.t 18) T3,.v (.t 19) T3,.obj (.t 7) false 121 1,.obj (.c 0 0) false 129 5,.v (.c 1 0) T126,.row (.c 1 2) false T91 91,.row (.c 1 3) false T91 91,.mpi (.c 1 4) false T158 T3,.obj (.t 9) false 91 5,.v (.c 5 0) T91] [] (by kernel_rfl)
def qo5(n:Nat):LK Tryz.prog false:=mkL tab (qlz n) [qo4 n] Tryz.f120 [true,true,false,true,false,false] 0 n [.nilf (.t 2),.v (.t 17) T35,.v (.t 18) T3,.v (.t 19) T3,.obj (.t 7) false 121 1,.obj (.c 0 0) false 129 5,.v (.c 1 0) T126,.row (.c 1 2) false T91 91,.row (.c 1 3) false T91 91,.mpi (.c 1 4) false T158 T3] [(.exit 0,[.obj (.t 7) false 121 1,.obj (.c 0 0) false 129 5,.v (.c 1 0) T126,.row (.c 1 2) false T91 91,.row (.c 1 3) false T91 91,.mpi (.c 1 4) false T158 T3])] (by kernel_rfl)
def qpZ(n:Nat):Cw Tryz.prog:=mkW tab (qlz n) [qo5 n] Tryz.func120 [.v (.t 0) T126,.v (.t 1) T35,.nilf (.t 2)] 3 [[.obj (.t 0) false 129 5,.v (.c 0 0) T126,.row (.c 0 2) false T91 91,.row (.c 0 3) false T91 91,.mpi (.c 0 4) false T158 T3]] (by kernel_rfl)
def qzx(n:Nat):CL Tryz.prog:=⟨[],[qnx n,qfx n,qli n,qdo n,qdp n],1,nof⟩
def qvl(n:Nat):Ct Tryz.prog:=mkC tab (qzx n) [] Tryz.func121 [.d T35] [T35] (by kernel_rfl)
def qxJ(n:Nat):CL Tryz.prog:=⟨[qnv n,qmf n],[],0,nof⟩
def qpv(n:Nat):Cw Tryz.prog:=mkW tab (qxJ n) [] Tryz.func117 [.v (.t 0) T158,.obj (.t 1) true 126 2,.v (.c 0 0) T126] 2 [[.v (.t 0) T4,.obj (.t 1) true 126 2,.v (.c 0 0) T126]] (by kernel_rfl)
def qf8(n:Nat):CL Tryz.prog:=⟨[],[qpv n],0,nof⟩
def qf9(n:Nat):LK Tryz.prog false:=mkL tab (qf8 n) [] Tryz.f150 [true,false,true,false,false] 0 n [.v (.t 0) T155,.v (.t 7) T3,.v (.t 8) T3,.fnc (.t 1) 117 [.box true 126 2],.v (.c 0 0) T126] [(.exit 0,[.fnc (.t 1) 117 [.box true 126 2],.v (.c 0 0) T126]),(.ret,[.v (.t 4) T3,.fnc (.t 1) 117 [.box true 126 2],.v (.c 0 0) T126])] (by kernel_rfl)
def qgl(n:Nat):Cw Tryz.prog:=mkW tab (qf8 n) [qf9 n] Tryz.func150 [.v (.t 0) T155,.fnc (.t 1) 117 [.box true 126 2],.v (.c 0 0) T126] 2 [[.v (.t 0) T3,.obj (.t 1) true 126 2,.v (.c 0 0) T126]] (by kernel_rfl)
def qjV(n:Nat):CL Tryz.prog:=⟨[],[qpv n,qgl n],0,nof⟩
def qfJ(n:Nat):Cw Tryz.prog:=mkW tab (qjV n) [] Tryz.func116 [.v (.t 0) T155,.fnc (.t 1) 117 [.box true 126 2],.v (.c 0 0) T126] 2 [[.v (.t 0) T4,.obj (.t 1) true 126 2,.v (.c 0 0) T126]] (by kernel_rfl)
def qzy(n:Nat):CL Tryz.prog:=⟨[qri n,qvl n],[qfJ n,qpZ n],4,nof⟩
def qvm(n:Nat):Cw Tryz.prog:=mkW tab (qzy n) [] Tryz.func77 [.v (.t 0) T34,.v (.t 1) T35,.v (.t 2) T155] 3 [[.v (.t 1) T24,.obj (.t 0) false 129 5,.v (.c 0 0) T126,.row (.c 0 2) false T91 91,.row (.c 0 3) false T91 91,.mpi (.c 0 4) false T158 T3],[.nilp (.t 0),.v (.t 1) T24]] (by kernel_rfl)
def qwM(n:Nat):CL Tryz.prog:=⟨[],[qvm n,qwn n,qpY n],4,nof⟩
def qsb(n:Nat):Ct Tryz.prog:=mkC tab (qwM n) [] Tryz.func36 [.d T34,.d T35] [T22,T24] (by kernel_rfl)
end
section
end
end
end Go.Proofs.YtlmicgmhallkkaaGreatDoor
