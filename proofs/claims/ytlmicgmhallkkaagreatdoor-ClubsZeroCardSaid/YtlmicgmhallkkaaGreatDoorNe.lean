/- Texts DnA, DnB, DnC, DnD, DnF, DnG, DnH, DnI, DnE, DnJ in one. -/
import Derived.Test.YtlmicgmhallkkaaGreatDoorDnT
import Derived.Test.YtlmicgmhallkkaaGreatDoorNd
import Derived.Test.YtlmicgmhallkkaaGreatDoorKc
/- Printed: what functions of the program compute. -/
set_option linter.constructorNameAsVariable false
set_option linter.unusedSimpArgs false
set_option linter.unusedVariables false
set_option linter.unusedSectionVars false
namespace Go.Proofs.YtlmicgmhallkkaaGreatDoor
open Go Go.Proofs Go.RowKit
set_option maxRecDepth 20000
noncomputable section
section
def qrN(n:Nat):CL Tryz.prog:=⟨[],[],0,nof⟩
def qhy(n:Nat):Ct Tryz.prog:=mkC tab (qrN n) [] Tryz.func147 [.d T3,.d T3,.d T3] [T4] (by kernel_rfl)
def qmv(n:Nat):CL Tryz.prog:=⟨[qhy n],[],0,nof⟩
def qmw(n:Nat):LK Tryz.prog false:=mkL tab (qmv n) [] Tryz.f113 [true,false,true,false,false] 0 n [.v (.t 3) T3,.obj (.t 1) false 34 2,.v (.c 0 0) T34] [(.exit 0,[.obj (.t 1) false 34 2,.v (.c 0 0) T34]),(.ret,[.v (.t 2) T4])] (by kernel_rfl)
def qmK(n:Nat):Ct Tryz.prog:=mkC tab (qmv n) [qmw n] Tryz.func113 [.d T34] [T4] (by kernel_rfl)
def qlr(n:Nat):CL Tryz.prog:=⟨[qhy n],[],0,nof⟩
def qls(n:Nat):LK Tryz.prog false:=mkL tab (qlr n) [] Tryz.f148 [true,true,true,false,true,false,false] 0 n [.v (.t 5) T3,.v (.t 6) T3,.obj (.t 2) false 34 2,.v (.c 0 0) T34,.obj (.t 3) false 91 5,.v (.c 1 0) T91] [(.exit 0,[]),(.ret,[.v (.t 4) T4])] (by kernel_rfl)
def qlX(n:Nat):Ct Tryz.prog:=mkC tab (qlr n) [qls n] Tryz.func148 [.d T34,.d T91] [T4] (by kernel_rfl)
def qkq(n:Nat):CL Tryz.prog:=⟨[qhy n,qlX n],[],0,nof⟩
def qkr(n:Nat):LK Tryz.prog false:=mkL tab (qkq n) [] Tryz.f114 [true,false,true,false,false] 0 n [.v (.t 1) T35,.v (.t 5) T3,.obj (.t 2) false 34 2,.v (.c 0 0) T34] [(.exit 0,[.v (.t 1) T35]),(.ret,[.v (.t 4) T4])] (by kernel_rfl)
def qk1(n:Nat):Ct Tryz.prog:=mkC tab (qkq n) [qkr n] Tryz.func114 [.d T34,.d T35] [T4] (by kernel_rfl)
def qno(n:Nat):CL Tryz.prog:=⟨[],[],0,nof⟩
def qnp(n:Nat):LK Tryz.prog false:=mkL tab (qno n) [] Tryz.f149 [true,true,false,true,false,false] 0 n [.v (.t 5) T3,.obj (.t 2) false 91 5,.v (.c 0 0) T91,.obj (.t 3) false 91 5,.v (.c 1 0) T91] [(.exit 0,[]),(.ret,[.v (.t 4) T4])] (by kernel_rfl)
def qnP(n:Nat):Ct Tryz.prog:=mkC tab (qno n) [qnp n] Tryz.func149 [.d T91,.d T91] [T4] (by kernel_rfl)
def qkf(n:Nat):CL Tryz.prog:=⟨[qnP n],[],0,nof⟩
def qnq(n:Nat):LK Tryz.prog false:=mkL tab (qkf n) [] Tryz.f115 [true,false,true,false,false,true,false,false,true,false,false] 1 n [.v (.t 0) T35,.v (.t 3) T3,.v (.t 4) T3] [(.exit 2,[.v (.t 0) T35,.v (.t 3) T3]),(.ret,[.v (.t 2) T4])] (by kernel_rfl)
def qnr(n:Nat):LK Tryz.prog false:=mkL tab (qkf n) [qnq n] Tryz.f115 [true,false,true,false,false] 0 n [.v (.t 0) T35,.v (.t 3) T3] [(.exit 0,[]),(.ret,[.v (.t 2) T4])] (by kernel_rfl)
def qnQ(n:Nat):Ct Tryz.prog:=mkC tab (qkf n) [qnr n] Tryz.func115 [.d T35] [T4] (by kernel_rfl)
def qsh(n:Nat):CL Tryz.prog:=⟨[qmK n,qk1 n,qnQ n],[],0,nof⟩
def qnR(n:Nat):Ct Tryz.prog:=mkC tab (qsh n) [] Tryz.func74 [.d T34,.d T35] [T24] (by kernel_rfl)
end
section
def qv5(n:Nat):CL Tryz.prog:=⟨[],[],0,nof⟩
def qnS(n:Nat):Ct Tryz.prog:=mkC tab (qv5 n) [] Tryz.func133 [.d T3] [T4] (by kernel_rfl)
def qwW(n:Nat):CL Tryz.prog:=⟨[qnS n],[],0,nof⟩
def qoT(n:Nat):Ct Tryz.prog:=mkC tab (qwW n) [] Tryz.func166 [.d T3,.d T3] [T4] (by kernel_rfl)
def qut(n:Nat):CL Tryz.prog:=⟨[qnS n],[],0,nof⟩
def qgq(n:Nat):Ct Tryz.prog:=mkC tab (qut n) [] Tryz.func100 [.d T3,.d T3] [T3] (by kernel_rfl)
def quu(n:Nat):CL Tryz.prog:=⟨[],[],0,nof⟩
def quv(n:Nat):LK Tryz.prog false:=mkL tab (quu n) [] Tryz.f78 [true,true,false,true,false,false] 0 n [.v (.t 6) T35,.v (.t 7) T3,.v (.t 8) T3,.row (.t 3) false T3 3] [(.exit 0,[.row (.t 3) false T3 3])] (by kernel_rfl)
def qrO(n:Nat):Cw Tryz.prog:=mkW tab (quu n) [quv n] Tryz.func78 [.v (.t 0) T35] 1 [[.row (.t 0) false T3 3]] (by kernel_rfl)
def qeT(n:Nat):CL Tryz.prog:=⟨[qoT n],[],0,nof⟩
def qhz(n:Nat):LK Tryz.prog false:=mkL tab (qeT n) [] Tryz.f160 [true,false,false,true,false,false,true,false,false] 1 n [.v (.t 1) T3,.v (.t 2) T3,.v (.t 6) T3,.v (.t 7) T3,.row (.t 0) true T3 3] [(.exit 2,[.v (.t 1) T3,.v (.t 2) T3,.v (.t 6) T3,.row (.t 0) true T3 3])] (by kernel_rfl)
def qhA(n:Nat):LK Tryz.prog false:=mkL tab (qeT n) [qhz n] Tryz.f160 [true,false,false] 0 n [.v (.t 1) T3,.v (.t 2) T3,.v (.t 6) T3,.row (.t 0) true T3 3] [(.exit 0,[.row (.t 0) true T3 3])] (by kernel_rfl)
def qhY(n:Nat):Cw Tryz.prog:=mkW tab (qeT n) [qhA n] Tryz.func160 [.v (.t 1) T3,.v (.t 2) T3,.row (.t 0) true T3 3] 3 [[.row (.t 0) true T3 3]] (by kernel_rfl)
def quw(n:Nat):CL Tryz.prog:=⟨[],[],0,nof⟩
def qpQ(n:Nat):Ct Tryz.prog:=mkC tab (quw n) [] Tryz.func170 [.d T167] [T3] (by kernel_rfl)
def qv6(n:Nat):CL Tryz.prog:=⟨[qpQ n],[],0,nof⟩
def qlu(n:Nat):Ct Tryz.prog:=mkC tab (qv6 n) [] Tryz.func123 [.d T70] [T3] (by kernel_rfl)
def qwX(n:Nat):CL Tryz.prog:=⟨[],[],0,nof⟩
def qgW(n:Nat):Ct Tryz.prog:=mkC tab (qwX n) [] Tryz.func134 [.d T3,.d T3,.d T3] [T4] (by kernel_rfl)
def qvj(n:Nat):CL Tryz.prog:=⟨[qgW n],[],0,nof⟩
def qm8(n:Nat):Ct Tryz.prog:=mkC tab (qvj n) [] Tryz.func118 [.d T126,.d T3] [T4] (by kernel_rfl)
def qtN(n:Nat):CL Tryz.prog:=⟨[qgW n],[],0,nof⟩
def qlY(n:Nat):Ct Tryz.prog:=mkC tab (qtN n) [] Tryz.func119 [.d T126,.d T3] [T4] (by kernel_rfl)
def qos(n:Nat):CL Tryz.prog:=⟨[qm8 n,qlY n,qgW n],[],0,nof⟩
def qot(n:Nat):LK Tryz.prog false:=mkL tab (qos n) [] Tryz.f177 [true,true,false,true,false,false] 0 n [.v (.t 5) T3,.v (.t 8) T89,.v (.t 9) T3,.v (.t 10) T3,.obj (.t 2) false 126 2,.v (.c 0 0) T126] [(.exit 0,[]),(.ret,[.v (.t 4) T4])] (by kernel_rfl)
def qpo(n:Nat):Ct Tryz.prog:=mkC tab (qos n) [qot n] Tryz.func177 [.d T126,.d T89] [T4] (by kernel_rfl)
def qsi(n:Nat):CL Tryz.prog:=⟨[qgW n,qpo n],[],0,nof⟩
def qnT(n:Nat):Ct Tryz.prog:=mkC tab (qsi n) [] Tryz.func139 [.d T126,.d T91] [T4] (by kernel_rfl)
def qtD(n:Nat):CL Tryz.prog:=⟨[],[],0,nof⟩
def qtE(n:Nat):LK Tryz.prog false:=mkL tab (qtD n) [] Tryz.f159 [true,true,false,true,false,false] 0 n [.v (.t 3) T3,.v (.t 6) T22,.v (.t 7) T3,.v (.t 8) T3] [(.exit 0,[.v (.t 3) T3]),(.ret,[.v (.t 2) T3])] (by kernel_rfl)
def qnU(n:Nat):Ct Tryz.prog:=mkC tab (qtD n) [qtE n] Tryz.func159 [.d T22] [T3] (by kernel_rfl)
def qtF(n:Nat):CL Tryz.prog:=⟨[],[],0,nof⟩
def qtG(n:Nat):LK Tryz.prog false:=mkL tab (qtF n) [] Tryz.f140 [true,false,true,false,false] 0 n [.v (.t 0) T35,.v (.t 5) T35,.v (.t 6) T3,.v (.t 7) T3] [(.exit 0,[]),(.ret,[.v (.t 2) T4])] (by kernel_rfl)
def qux(n:Nat):Ct Tryz.prog:=mkC tab (qtF n) [qtG n] Tryz.func140 [.d T35] [T4] (by kernel_rfl)
def qou(n:Nat):CL Tryz.prog:=⟨[],[],0,nof⟩
def qov(n:Nat):LK Tryz.prog false:=mkL tab (qou n) [] Tryz.f45 [true,false,true,false,false] 0 n [.v (.t 1) T35,.v (.t 5) T3,.obj (.t 2) false 34 2,.v (.c 0 0) T34] [(.exit 0,[.v (.t 1) T35,.obj (.t 2) false 34 2,.v (.c 0 0) T34]),(.ret,[.v (.t 4) T4])] (by kernel_rfl)
def qpp(n:Nat):Ct Tryz.prog:=mkC tab (qou n) [qov n] Tryz.func45 [.d T34,.d T35] [T4] (by kernel_rfl)
def qq1(n:Nat):CL Tryz.prog:=⟨[],[],0,nof⟩
def qrP(n:Nat):Ct Tryz.prog:=mkC tab (qq1 n) [] Tryz.func80 [] [T34,T35] (by kernel_rfl)
end
section
def qwY(n:Nat):CL Tryz.prog:=⟨[qgq n,qnU n],[],0,nof⟩
def qmm(n:Nat):Ct Tryz.prog:=mkC tab (qwY n) [] Tryz.func158 [.d T91,.d T91] [T3] (by kernel_rfl)
def quy(n:Nat):CL Tryz.prog:=⟨[],[],0,nof⟩
def qmE(n:Nat):Cw Tryz.prog:=mkW tab (quy n) [] Tryz.func156 [.v (.t 0) T91,.obj (.t 1) true 91 5,.v (.c 0 0) T91] 2 [[.v (.t 0) T4,.obj (.t 1) true 91 5,.v (.c 0 0) T91]] (by kernel_rfl)
def qeV(n:Nat):CL Tryz.prog:=⟨[],[qmE n],0,nof⟩
def qeW(n:Nat):LK Tryz.prog false:=mkL tab (qeV n) [] Tryz.f58 [true,false,true,false,false] 0 n [.v (.t 0) T35,.v (.t 7) T3,.v (.t 8) T3,.fnc (.t 1) 156 [.box true 91 5],.v (.c 0 0) T91] [(.exit 0,[.fnc (.t 1) 156 [.box true 91 5],.v (.c 0 0) T91]),(.ret,[.v (.t 4) T3,.fnc (.t 1) 156 [.box true 91 5],.v (.c 0 0) T91])] (by kernel_rfl)
def qT(n:Nat):Cw Tryz.prog:=mkW tab (qeV n) [qeW n] Tryz.func58 [.v (.t 0) T35,.fnc (.t 1) 156 [.box true 91 5],.v (.c 0 0) T91] 2 [[.v (.t 0) T3,.obj (.t 1) true 91 5,.v (.c 0 0) T91]] (by kernel_rfl)
def qin(n:Nat):CL Tryz.prog:=⟨[],[qT n,qmE n],0,nof⟩
def qcC(n:Nat):Cw Tryz.prog:=mkW tab (qin n) [] Tryz.func137 [.v (.t 0) T35,.fnc (.t 1) 156 [.box true 91 5],.v (.c 0 0) T91] 2 [[.v (.t 0) T4,.obj (.t 1) true 91 5,.v (.c 0 0) T91]] (by kernel_rfl)
def qv7(n:Nat):CL Tryz.prog:=⟨[],[qcC n],0,nof⟩
def qnV(n:Nat):Cw Tryz.prog:=mkW tab (qv7 n) [] Tryz.func155 [.v (.t 0) T91,.obj (.t 1) true 35 1,.v (.c 0 0) T35] 2 [[.v (.t 0) T4,.obj (.t 1) true 35 1,.v (.c 0 0) T35]] (by kernel_rfl)
def qbQ(n:Nat):CL Tryz.prog:=⟨[qmm n],[],0,nof⟩
def qdx(n:Nat):LK Tryz.prog false:=mkL tab (qbQ n) [] Tryz.f195 [true,false,false,true,false,false,true,false,false] 1 n [.v (.t 1) T3,.v (.t 2) T3,.fn (.t 3) 158 [] [],.v (.t 8) T3,.v (.t 9) T3,.row (.t 0) true T91 91] [(.exit 2,[.v (.t 1) T3,.v (.t 2) T3,.fn (.t 3) 158 [] [],.v (.t 8) T3,.row (.t 0) true T91 91])] (by kernel_rfl)
def qdy(n:Nat):LK Tryz.prog false:=mkL tab (qbQ n) [qdx n] Tryz.f195 [true,false,false] 0 n [.v (.t 1) T3,.v (.t 2) T3,.fn (.t 3) 158 [] [],.v (.t 8) T3,.row (.t 0) true T91 91] [(.exit 0,[.row (.t 0) true T91 91])] (by kernel_rfl)
def qbV(n:Nat):Cw Tryz.prog:=mkW tab (qbQ n) [qdy n] Tryz.func195 [.v (.t 1) T3,.v (.t 2) T3,.fn (.t 3) 158 [] [],.row (.t 0) true T91 91] 4 [[.row (.t 0) true T91 91]] (by kernel_rfl)
def qvk(n:Nat):CL Tryz.prog:=⟨[qgq n,qnU n],[],0,nof⟩
def qqB(n:Nat):Ct Tryz.prog:=mkC tab (qvk n) [] Tryz.func194 [.d T95,.d T95] [T3] (by kernel_rfl)
def qfk(n:Nat):CL Tryz.prog:=⟨[qqB n],[],0,nof⟩
def qfl(n:Nat):LK Tryz.prog false:=mkL tab (qfk n) [] Tryz.f193 [true,false,true,false,false] 0 n [.v (.t 0) T89,.v (.t 1) T89,.fn (.t 2) 194 [] [],.v (.t 11) T89,.v (.t 12) T3,.v (.t 13) T3] [(.exit 0,[.v (.t 0) T89,.v (.t 1) T89]),(.ret,[.v (.t 6) T3])] (by kernel_rfl)
def qfC(n:Nat):Ct Tryz.prog:=mkC tab (qfk n) [qfl n] Tryz.func193 [.d T89,.d T89,.fn 194 [] []] [T3] (by kernel_rfl)
def qwZ(n:Nat):CL Tryz.prog:=⟨[qgq n,qnU n,qfC n],[],0,nof⟩
def qkg(n:Nat):Ct Tryz.prog:=mkC tab (qwZ n) [] Tryz.func179 [.d T91,.d T91] [T3] (by kernel_rfl)
def qbR(n:Nat):CL Tryz.prog:=⟨[qkg n],[],0,nof⟩
def qdz(n:Nat):LK Tryz.prog false:=mkL tab (qbR n) [] Tryz.f195 [true,false,false,true,false,false,true,false,false] 1 n [.v (.t 1) T3,.v (.t 2) T3,.fn (.t 3) 179 [] [],.v (.t 8) T3,.v (.t 9) T3,.row (.t 0) true T91 91] [(.exit 2,[.v (.t 1) T3,.v (.t 2) T3,.fn (.t 3) 179 [] [],.v (.t 8) T3,.row (.t 0) true T91 91])] (by kernel_rfl)
def qdA(n:Nat):LK Tryz.prog false:=mkL tab (qbR n) [qdz n] Tryz.f195 [true,false,false] 0 n [.v (.t 1) T3,.v (.t 2) T3,.fn (.t 3) 179 [] [],.v (.t 8) T3,.row (.t 0) true T91 91] [(.exit 0,[.row (.t 0) true T91 91])] (by kernel_rfl)
def qbW(n:Nat):Cw Tryz.prog:=mkW tab (qbR n) [qdA n] Tryz.func195 [.v (.t 1) T3,.v (.t 2) T3,.fn (.t 3) 179 [] [],.row (.t 0) true T91 91] 4 [[.row (.t 0) true T91 91]] (by kernel_rfl)
def quz(n:Nat):CL Tryz.prog:=⟨[qgW n],[],0,nof⟩
def qmF(n:Nat):Ct Tryz.prog:=mkC tab (quz n) [] Tryz.func136 [.d T163] [T4] (by kernel_rfl)
def qfM(n:Nat):CL Tryz.prog:=⟨[qmF n],[],0,nof⟩
def qfN(n:Nat):LK Tryz.prog false:=mkL tab (qfM n) [] Tryz.f176 [true,false,true,false,false] 0 n [.v (.t 0) T32,.fn (.t 1) 136 [] [],.v (.t 7) T3,.v (.t 8) T3] [(.exit 0,[]),(.ret,[.v (.t 4) T3])] (by kernel_rfl)
def qf2(n:Nat):Ct Tryz.prog:=mkC tab (qfM n) [qfN n] Tryz.func176 [.d T32,.fn 136 [] []] [T3] (by kernel_rfl)
def qjr(n:Nat):CL Tryz.prog:=⟨[qmF n,qf2 n],[],0,nof⟩
def qfm(n:Nat):Ct Tryz.prog:=mkC tab (qjr n) [] Tryz.func135 [.d T32,.fn 136 [] []] [T4] (by kernel_rfl)
def qv8(n:Nat):CL Tryz.prog:=⟨[qgW n,qfm n],[],0,nof⟩
def qrx(n:Nat):Ct Tryz.prog:=mkC tab (qv8 n) [] Tryz.func101 [.d T126] [T4] (by kernel_rfl)
def quA(n:Nat):CL Tryz.prog:=⟨[qkg n],[],0,nof⟩
def qpR(n:Nat):Ct Tryz.prog:=mkC tab (quA n) [] Tryz.func181 [.d T91,.d T91] [T4] (by kernel_rfl)
end
section
def qge(n:Nat):CL Tryz.prog:=⟨[],[],0,fun _=>false⟩
def qjs(n:Nat):Nat→St→PT (DEx×St):=fun _ _=>.fail
theorem qok(n:Nat):qbj (qge n).c (qv Tryz.f192) 0=[]:=by kernel_rfl
theorem qol:Tryz.f192.body=some (qv Tryz.f192):=by kernel_rfl
abbrev qgf:List It:=[.raw (.t 0),.v (.t 1) T3]
abbrev qfZ:List (List It):=[[.row (.t 0) false T91 91]]
def qk(n:Nat)(x:qg qgf):Option (qbC qfZ):=runW tab (qge n) (qjs n) (qv Tryz.f192) qgf 2 27 [.tmp 4] qfZ x
def qom(n:Nat):Cw Tryz.prog:=⟨192,2,qgf,1,qfZ,qk n,fun _ _ h=>qmJ (B:=tab) (cs:=qge n) (lo:=qjs n) (rs:=[.tmp 4]) Tryz.func192 (by kernel_rfl) qol (by kernel_rfl) (by decide) (qkD (qok n) all_nil) h⟩
def qgX(n:Nat):CL Tryz.prog:=⟨[],[qom n],1,nof⟩
def qkh(n:Nat):LK Tryz.prog false:=mkL tab (qgX n) [] Tryz.f178 [true,true,false,true,false,false] 0 n [.v (.t 0) T211,.v (.t 3) T3,.v (.t 9) T211,.v (.t 10) T3,.v (.t 11) T3] [(.exit 0,[.v (.t 0) T211,.v (.t 3) T3])] (by kernel_rfl)
def qki(n:Nat):LK Tryz.prog false:=mkL tab (qgX n) [] Tryz.f178 [true,true,true,true,false,true,false,false] 1 n [.v (.t 25) T211,.v (.t 26) T3,.v (.t 27) T3,.row (.t 6) false T91 91] [(.exit 2,[.row (.t 6) false T91 91])] (by kernel_rfl)
def qks(n:Nat):Cw Tryz.prog:=mkW tab (qgX n) [qkh n,qki n] Tryz.func178 [.v (.t 0) T211] 1 [[.row (.t 0) false T91 91]] (by kernel_rfl)
abbrev qn:List It:=[.v (.t 1) T3,.v (.t 2) T3,.v (.t 3) T3,.fn (.t 4) 179 [] [],.row (.t 0) true T91 91]
abbrev ql:List (List It):=[[.row (.t 0) true T91 91]]
abbrev qd:Type:={g:qg qn→Option (qbC ql) // qru Tryz.prog 184 5 qn 0 ql g}
def qH(n:Nat)(g:qd):CL Tryz.prog:=⟨[qkg n],[qbV n,qbW n,⟨184,5,qn,0,ql,g.1,g.2⟩],0,fun _=>false⟩
def qd9(n:Nat)(g:qd):Nat→St→PT (DEx×St):=fun _ _=>.fail
abbrev qX:List It:=[.v (.t 1) T3,.v (.t 2) T3,.v (.t 3) T3,.fn (.t 4) 179 [] [],.v (.t 10) T4,.v (.t 11) T4,.row (.t 0) true T91 91]
abbrev qbp:List (DEx×List It):=[(.ret,[.row (.t 0) true T91 91])]
def qei(n:Nat)(g:qd)(rec:qg qX→Option (qbD qbp))(s:qg qX):Option (qbD qbp):=(qgd tab (qH n g) (qd9 n g) (subC [true,true,false,false] (qv Tryz.f184)) 1 (mkS qX 148 s)).run (Lp.leaf 148 qX qbp rec)
def qcr(n:Nat)(g:qd):Lp:=⟨148,qX,qbp,qb n (qei n g)⟩
theorem qio(n:Nat)(g:qd):qbj (qH n g).c (subC [true,true,false,false] (qv Tryz.f184)) 1=[]:=by kernel_rfl
theorem qhN(n:Nat)(g:qd)(st:St)(r:DEx×St)(h:((qcr n g).go st).Is r):DA Tryz.prog false (.loop (subC [true,true,false,false] (qv Tryz.f184))) st r:=Lp.ok (L:=qcr n g) (B:=tab) (cs:=qH n g) (lo:=qd9 n g) (id:=0) rfl (qkD (qio n g) all_nil) (fun _ _=>rfl) h
def qej(n:Nat)(g:qd):Nat→St→PT (DEx×St):=fun k st=>match k with
 | 0=>(qcr n g).go st
 | _=>.fail
theorem qiv(n:Nat)(g:qd):qbj (qH n g).c (qv Tryz.f184) 0=[(0,.loop (subC [true,true,false,false] (qv Tryz.f184)))]:=by kernel_rfl
theorem qiw:Tryz.f184.body=some (qv Tryz.f184):=by kernel_rfl
def qcs(n:Nat)(g:qd)(x:qg qn):Option (qbC ql):=runW tab (qH n g) (qej n g) (qv Tryz.f184) qn 5 148 [] ql x
theorem qip(n:Nat)(g:qd):qru Tryz.prog 184 5 qn 0 ql (qcs n g):=fun _ _ h=>qmJ (B:=tab) (cs:=qH n g) (lo:=qej n g) (rs:=[]) Tryz.func184 (by kernel_rfl) qiw (by kernel_rfl) (by decide) (qkD (qiv n g) (all_cons (fun st r h=>qhN n g st r h) all_nil)) h
def qC(n:Nat):Nat→qd
 | 0=>⟨fun _=>none,fun _ _ h=>by cases h⟩
 | k+1=>⟨qcs n (qC n k),qip n (qC n k)⟩
def qeB(n:Nat)(x:qg qn):Option (qbC ql):=(qC n n).1 x
def qeC(n:Nat):Cw Tryz.prog:=⟨184,5,qn,0,ql,qeB n,(qC n n).2⟩
def qj2(n:Nat):CL Tryz.prog:=⟨[qlu n,qkg n],[qeC n],0,nof⟩
def qdk(n:Nat):Cw Tryz.prog:=mkW tab (qj2 n) [] Tryz.func157 [.fn (.t 1) 179 [] [],.row (.t 0) true T91 91] 2 [[.row (.t 0) true T91 91]] (by kernel_rfl)
abbrev qo:List It:=[.v (.t 1) T3,.v (.t 2) T3,.v (.t 3) T3,.fn (.t 4) 158 [] [],.row (.t 0) true T91 91]
abbrev qm:List (List It):=[[.row (.t 0) true T91 91]]
abbrev qe:Type:={g:qg qo→Option (qbC qm) // qru Tryz.prog 184 5 qo 0 qm g}
def qI(n:Nat)(g:qe):CL Tryz.prog:=⟨[qmm n],[qbV n,qbW n,⟨184,5,qo,0,qm,g.1,g.2⟩],0,fun _=>false⟩
def qea(n:Nat)(g:qe):Nat→St→PT (DEx×St):=fun _ _=>.fail
abbrev qY:List It:=[.v (.t 1) T3,.v (.t 2) T3,.v (.t 3) T3,.fn (.t 4) 158 [] [],.v (.t 10) T4,.v (.t 11) T4,.row (.t 0) true T91 91]
abbrev qbq:List (DEx×List It):=[(.ret,[.row (.t 0) true T91 91])]
def qek(n:Nat)(g:qe)(rec:qg qY→Option (qbD qbq))(s:qg qY):Option (qbD qbq):=(qgd tab (qI n g) (qea n g) (subC [true,true,false,false] (qv Tryz.f184)) 1 (mkS qY 148 s)).run (Lp.leaf 148 qY qbq rec)
def qct(n:Nat)(g:qe):Lp:=⟨148,qY,qbq,qb n (qek n g)⟩
theorem qiq(n:Nat)(g:qe):qbj (qI n g).c (subC [true,true,false,false] (qv Tryz.f184)) 1=[]:=by kernel_rfl
theorem qhO(n:Nat)(g:qe)(st:St)(r:DEx×St)(h:((qct n g).go st).Is r):DA Tryz.prog false (.loop (subC [true,true,false,false] (qv Tryz.f184))) st r:=Lp.ok (L:=qct n g) (B:=tab) (cs:=qI n g) (lo:=qea n g) (id:=0) rfl (qkD (qiq n g) all_nil) (fun _ _=>rfl) h
def qel(n:Nat)(g:qe):Nat→St→PT (DEx×St):=fun k st=>match k with
 | 0=>(qct n g).go st
 | _=>.fail
theorem qix(n:Nat)(g:qe):qbj (qI n g).c (qv Tryz.f184) 0=[(0,.loop (subC [true,true,false,false] (qv Tryz.f184)))]:=by kernel_rfl
theorem qiy:Tryz.f184.body=some (qv Tryz.f184):=by kernel_rfl
def qcu(n:Nat)(g:qe)(x:qg qo):Option (qbC qm):=runW tab (qI n g) (qel n g) (qv Tryz.f184) qo 5 148 [] qm x
theorem qir(n:Nat)(g:qe):qru Tryz.prog 184 5 qo 0 qm (qcu n g):=fun _ _ h=>qmJ (B:=tab) (cs:=qI n g) (lo:=qel n g) (rs:=[]) Tryz.func184 (by kernel_rfl) qiy (by kernel_rfl) (by decide) (qkD (qix n g) (all_cons (fun st r h=>qhO n g st r h) all_nil)) h
def qD(n:Nat):Nat→qe
 | 0=>⟨fun _=>none,fun _ _ h=>by cases h⟩
 | k+1=>⟨qcu n (qD n k),qir n (qD n k)⟩
def qeD(n:Nat)(x:qg qo):Option (qbC qm):=(qD n n).1 x
def qiz(n:Nat):Cw Tryz.prog:=⟨184,5,qo,0,qm,qeD n,(qD n n).2⟩
def qj3(n:Nat):CL Tryz.prog:=⟨[qlu n,qmm n],[qeC n,qiz n],0,nof⟩
def qdl(n:Nat):Cw Tryz.prog:=mkW tab (qj3 n) [] Tryz.func157 [.fn (.t 1) 158 [] [],.row (.t 0) true T91 91] 2 [[.row (.t 0) true T91 91]] (by kernel_rfl)
def qcv(n:Nat):CL Tryz.prog:=⟨[qpR n],[],0,nof⟩
def qem(n:Nat):LK Tryz.prog false:=mkL tab (qcv n) [] Tryz.f180 [true,true,false,true,false,false,true,false,false,true,false,true,false,true,false,false] 1 n [.fn (.t 1) 181 [] [],.v (.t 5) T3,.v (.t 7) T3,.row (.t 0) true T91 91,.sub (.t 6) 0] [(.exit 2,[.v (.t 5) T3,.row (.t 0) true T91 91])] (by kernel_rfl)
def qen(n:Nat):LK Tryz.prog false:=mkL tab (qcv n) [qem n] Tryz.f180 [true,true,false,true,false,false] 0 n [.fn (.t 1) 181 [] [],.v (.t 5) T3,.row (.t 0) true T91 91] [(.exit 0,[.row (.t 0) true T91 91]),(.ret,[.row (.t 0) true T91 91,.sub (.t 4) 0])] (by kernel_rfl)
def qeE(n:Nat):Cw Tryz.prog:=mkW tab (qcv n) [qen n] Tryz.func180 [.fn (.t 1) 181 [] [],.row (.t 0) true T91 91] 2 [[.row (.t 1) true T91 91,.sub (.t 0) 0]] (by kernel_rfl)
def qeF(n:Nat):CL Tryz.prog:=⟨[],[qnV n],0,nof⟩
def qeG(n:Nat):LK Tryz.prog false:=mkL tab (qeF n) [] Tryz.f58 [true,false,true,false,false] 0 n [.v (.t 7) T3,.v (.t 8) T3,.row (.t 0) true T91 91,.fnc (.t 1) 155 [.box true 35 1],.v (.c 1 0) T35] [(.exit 0,[.row (.t 0) true T91 91,.fnc (.t 1) 155 [.box true 35 1],.v (.c 1 0) T35]),(.ret,[.v (.t 4) T3,.row (.t 0) true T91 91,.fnc (.t 1) 155 [.box true 35 1],.v (.c 1 0) T35])] (by kernel_rfl)
def qZ(n:Nat):Cw Tryz.prog:=mkW tab (qeF n) [qeG n] Tryz.func58 [.row (.t 0) true T91 91,.fnc (.t 1) 155 [.box true 35 1],.v (.c 1 0) T35] 2 [[.v (.t 0) T3,.row (.t 1) true T91 91,.obj (.t 2) true 35 1,.v (.c 1 0) T35]] (by kernel_rfl)
def qfa(n:Nat):CL Tryz.prog:=⟨[],[qZ n,qT n,qnV n],0,nof⟩
def qfb(n:Nat):LK Tryz.prog false:=mkL tab (qfa n) [] Tryz.f153 [true,true,true,false,true,false,false] 0 n [.v (.t 5) T3,.v (.t 6) T3,.row (.t 0) true T91 91,.fnc (.t 1) 155 [.box true 35 1],.v (.c 1 0) T35] [(.exit 0,[.v (.t 5) T3,.row (.t 0) true T91 91,.fnc (.t 1) 155 [.box true 35 1],.v (.c 1 0) T35])] (by kernel_rfl)
def qfn(n:Nat):Cw Tryz.prog:=mkW tab (qfa n) [qfb n] Tryz.func153 [.row (.t 0) true T91 91,.fnc (.t 1) 155 [.box true 35 1],.v (.c 1 0) T35] 2 [[.row (.t 1) true T91 91,.obj (.t 2) true 35 1,.v (.c 1 0) T35,.sub (.t 0) 0]] (by kernel_rfl)
abbrev qbf:List It:=[.v (.t 1) T3,.v (.t 2) T3,.v (.t 3) T3,.row (.t 0) true T3 3]
abbrev qbb:List (List It):=[[.row (.t 0) true T3 3]]
abbrev qu:Type:={g:qg qbf→Option (qbC qbb) // qru Tryz.prog 122 4 qbf 0 qbb g}
def qcl(n:Nat)(g:qu):CL Tryz.prog:=⟨[qoT n],[qhY n,⟨122,4,qbf,0,qbb,g.1,g.2⟩],0,fun _=>false⟩
def qjt(n:Nat)(g:qu):Nat→St→PT (DEx×St):=fun _ _=>.fail
abbrev qc3:List It:=[.v (.t 1) T3,.v (.t 2) T3,.v (.t 3) T3,.v (.t 8) T4,.v (.t 9) T4,.row (.t 0) true T3 3]
abbrev qew:List (DEx×List It):=[(.ret,[.row (.t 0) true T3 3])]
def qjP(n:Nat)(g:qu)(rec:qg qc3→Option (qbD qew))(s:qg qc3):Option (qbD qew):=(qgd tab (qcl n g) (qjt n g) (subC [true,true,false,false] (qv Tryz.f122)) 1 (mkS qc3 134 s)).run (Lp.leaf 134 qc3 qew rec)
def qgB(n:Nat)(g:qu):Lp:=⟨134,qc3,qew,qb n (qjP n g)⟩
theorem qon(n:Nat)(g:qu):qbj (qcl n g).c (subC [true,true,false,false] (qv Tryz.f122)) 1=[]:=by kernel_rfl
theorem qm9(n:Nat)(g:qu)(st:St)(r:DEx×St)(h:((qgB n g).go st).Is r):DA Tryz.prog false (.loop (subC [true,true,false,false] (qv Tryz.f122))) st r:=Lp.ok (L:=qgB n g) (B:=tab) (cs:=qcl n g) (lo:=qjt n g) (id:=0) rfl (qkD (qon n g) all_nil) (fun _ _=>rfl) h
def qjQ(n:Nat)(g:qu):Nat→St→PT (DEx×St):=fun k st=>match k with
 | 0=>(qgB n g).go st
 | _=>.fail
theorem qoU(n:Nat)(g:qu):qbj (qcl n g).c (qv Tryz.f122) 0=[(0,.loop (subC [true,true,false,false] (qv Tryz.f122)))]:=by kernel_rfl
theorem qoV:Tryz.f122.body=some (qv Tryz.f122):=by kernel_rfl
def qgC(n:Nat)(g:qu)(x:qg qbf):Option (qbC qbb):=runW tab (qcl n g) (qjQ n g) (qv Tryz.f122) qbf 4 134 [] qbb x
theorem qoo(n:Nat)(g:qu):qru Tryz.prog 122 4 qbf 0 qbb (qgC n g):=fun _ _ h=>qmJ (B:=tab) (cs:=qcl n g) (lo:=qjQ n g) (rs:=[]) Tryz.func122 (by kernel_rfl) qoV (by kernel_rfl) (by decide) (qkD (qoU n g) (all_cons (fun st r h=>qm9 n g st r h) all_nil)) h
def qbN(n:Nat):Nat→qu
 | 0=>⟨fun _=>none,fun _ _ h=>by cases h⟩
 | k+1=>⟨qgC n (qbN n k),qoo n (qbN n k)⟩
def qkj(n:Nat)(x:qg qbf):Option (qbC qbb):=(qbN n n).1 x
def qoW(n:Nat):Cw Tryz.prog:=⟨122,4,qbf,0,qbb,qkj n,(qbN n n).2⟩
def qtO(n:Nat):CL Tryz.prog:=⟨[qlu n],[qoW n],0,nof⟩
def qpq(n:Nat):Cw Tryz.prog:=mkW tab (qtO n) [] Tryz.func79 [.row (.t 0) true T3 3] 1 [[.row (.t 0) true T3 3]] (by kernel_rfl)
def qvl(n:Nat):CL Tryz.prog:=⟨[],[qdk n,qdl n,qks n,qeE n],1,nof⟩
def qna(n:Nat):Cw Tryz.prog:=mkW tab (qvl n) [] Tryz.func141 [.v (.t 0) T211] 1 [[.row (.t 0) false T91 91]] (by kernel_rfl)
def qp9(n:Nat):CL Tryz.prog:=⟨[qnT n],[],0,nof⟩
def qiA(n:Nat):Cw Tryz.prog:=mkW tab (qp9 n) [] Tryz.func138 [.v (.t 0) T91,.obj (.t 1) true 126 2,.v (.c 0 0) T126] 2 [[.v (.t 0) T4,.obj (.t 1) true 126 2,.v (.c 0 0) T126]] (by kernel_rfl)
def qdO(n:Nat):CL Tryz.prog:=⟨[],[qiA n],0,nof⟩
def qdP(n:Nat):LK Tryz.prog false:=mkL tab (qdO n) [] Tryz.f58 [true,false,true,false,false] 0 n [.v (.t 0) T35,.v (.t 7) T3,.v (.t 8) T3,.fnc (.t 1) 138 [.box true 126 2],.v (.c 0 0) T126] [(.exit 0,[.fnc (.t 1) 138 [.box true 126 2],.v (.c 0 0) T126]),(.ret,[.v (.t 4) T3,.fnc (.t 1) 138 [.box true 126 2],.v (.c 0 0) T126])] (by kernel_rfl)
def qbg(n:Nat):Cw Tryz.prog:=mkW tab (qdO n) [qdP n] Tryz.func58 [.v (.t 0) T35,.fnc (.t 1) 138 [.box true 126 2],.v (.c 0 0) T126] 2 [[.v (.t 0) T3,.obj (.t 1) true 126 2,.v (.c 0 0) T126]] (by kernel_rfl)
def qgY(n:Nat):CL Tryz.prog:=⟨[],[qZ n,qT n,qbg n,qiA n],0,nof⟩
def qdB(n:Nat):Cw Tryz.prog:=mkW tab (qgY n) [] Tryz.func137 [.v (.t 0) T35,.fnc (.t 1) 138 [.box true 126 2],.v (.c 0 0) T126] 2 [[.v (.t 0) T4,.obj (.t 1) true 126 2,.v (.c 0 0) T126]] (by kernel_rfl)
def qrQ(n:Nat):CL Tryz.prog:=⟨[qux n],[qcC n,qdB n,qna n],1,nof⟩
def qns(n:Nat):Ct Tryz.prog:=mkC tab (qrQ n) [] Tryz.func102 [.d T126,.d T35] [T24] (by kernel_rfl)
def qyQ(n:Nat):CL Tryz.prog:=⟨[qrx n,qns n],[],0,nof⟩
def qqC(n:Nat):Ct Tryz.prog:=mkC tab (qyQ n) [] Tryz.func61 [.d T34,.d T35] [T24] (by kernel_rfl)
end
section
def qf0(n:Nat):CL Tryz.prog:=⟨[],[],0,fun _=>false⟩
def qi2(n:Nat):Nat→St→PT (DEx×St):=fun _ _=>.fail
theorem qnW(n:Nat):qbj (qf0 n).c (qv Tryz.f154) 0=[]:=by kernel_rfl
theorem qnX:Tryz.f154.body=some (qv Tryz.f154):=by kernel_rfl
abbrev qf1:List It:=[.raw (.t 0)]
abbrev qfH:List (List It):=[[.row (.t 0) false T91 91]]
def qeb(n:Nat)(x:qg qf1):Option (qbC qfH):=runW tab (qf0 n) (qi2 n) (qv Tryz.f154) qf1 1 8 [.tmp 2] qfH x
def qnY(n:Nat):Cw Tryz.prog:=⟨154,1,qf1,1,qfH,qeb n,fun _ _ h=>qmJ (B:=tab) (cs:=qf0 n) (lo:=qi2 n) (rs:=[.tmp 2]) Tryz.func154 (by kernel_rfl) qnX (by kernel_rfl) (by decide) (qkD (qnW n) all_nil) h⟩
def qhh(n:Nat):CL Tryz.prog:=⟨[],[],0,fun _=>false⟩
def qkt(n:Nat):Nat→St→PT (DEx×St):=fun _ _=>.fail
theorem qpE(n:Nat):qbj (qhh n).c (qv Tryz.f154) 0=[]:=by kernel_rfl
theorem qpF:Tryz.f154.body=some (qv Tryz.f154):=by kernel_rfl
abbrev qhi:List It:=[.v (.t 0) T35]
abbrev qeU:List (List It):=[[.row (.t 0) false T91 91]]
def qft(n:Nat)(x:qg qhi):Option (qbC qeU):=runW tab (qhh n) (qkt n) (qv Tryz.f154) qhi 1 8 [.tmp 2] qeU x
def qpG(n:Nat):Cw Tryz.prog:=⟨154,1,qhi,1,qeU,qft n,fun _ _ h=>qmJ (B:=tab) (cs:=qhh n) (lo:=qkt n) (rs:=[.tmp 2]) Tryz.func154 (by kernel_rfl) qpF (by kernel_rfl) (by decide) (qkD (qpE n) all_nil) h⟩
end
theorem qpH(n:Nat)(c:Nat):qeb n (.slice none 0 c,())=some ([],()):=by kernel_rfl
theorem qpI(n:Nat)(a:Addr)(c:Nat):qeb n (.slice (some a) 0 c,())=some ([],()):=by kernel_rfl
def qk2(n:Nat):Cw Tryz.prog:=qA7 154 T91 qeU (qeb n) (qft n) ([],()) (fun v y m0 h=>(qnY n).okk (x:=(v,())) (y:=y) h m0 (qto m0)) (fun l y m0 h=>(qpG n).okk (x:=(l,())) (y:=y) h m0 (qto m0)) (fun A c=>by cases A with | none=>exact qpH n c | some a=>exact qpI n a c)
def qpJ(n:Nat):=(qk2 n).M
set_option maxHeartbeats 4000000
def qld(hut:Int)(lo:Int):Nat→List (Int×Int)
 | 0=>[]
 | n+1=>(hut,lo)::qld hut (lo+1) n
def qsj(s:Int×(Int×Int)):List (Int×Int):=qld s.1 s.2.1 (s.2.2+1-s.2.1).toNat
def qcO:List (Int×(Int×Int))→List (Int×Int)
 | []=>[]
 | s::l=>qsj s++qcO l
def quB(l:List (Int×(Int×Int))):Bool:=Nat.ble l.length 1000000&&l.all fun s=>decide (-9223372036854775808≤s.2.1)&&decide (s.2.2<9223372036854775807)
def qw0(y:Int×Int):qV [T158]:=(y,())
theorem qyy(l:List (Int×Int)):((l.map qw0).map (tysA [T158])).length=l.length:=by rw[List.length_map,List.length_map]
def qqD(l:List (Int×(Int×Int))):Option (List (qV [T158])):=cond (quB l) (some ((qcO l).map qw0)) none
def qju(l:List (Int×(Int×Int)))(k:Nat):Nat:=(qcO (l.take k)).length
theorem qrR(h:Int):∀(n:Nat) (lo:Int),(qld h lo n).length=n
 | 0,_=>rfl
 | n+1,lo=>by simp[qld,qrR h n]
theorem qw1(h:Int):∀(n:Nat) (lo:Int) (j:Nat),j<n→(qld h lo n)[j]?=some (h,lo+j)
 | n+1,lo,0,_=>by simp[qld]
 | n+1,lo,j+1,hj=>by
  simp only[qld,List.getElem?_cons_succ]
  rw[qw1 h n (lo+1) j (by omega)]
  congr 2
  omega
theorem qtp:∀(l m:List (Int×(Int×Int))),qcO (l++m)=qcO l++qcO m
 | [],_=>rfl
 | s::l,m=>by simp[qcO,qtp l m]
theorem qBT(l:List (Int×(Int×Int)))(k:Nat)(hk:k<l.length):qju l (k+1)=qju l k+(l[k].2.2+1-l[k].2.1).toNat:=by
 unfold qju
 rw[List.take_succ_eq_append_getElem hk,qtp]
 simp[qcO,qsj,qrR]
theorem qC0(l:List (Int×(Int×Int))):qju l l.length=(qcO l).length:=by unfold qju;simp
theorem qEz(l:List (Int×(Int×Int)))(k:Nat)(hk:k<l.length)(j:Nat)(hj:j<(l[k].2.2+1-l[k].2.1).toNat):(qcO l)[qju l k+j]?=some (l[k].1,l[k].2.1+j):=by
 have h1:l=l.take k++l[k]::l.drop (k+1):=by simp
 have h2:qcO l=qcO (l.take k)++(qsj l[k]++qcO (l.drop (k+1))):=by
  conv=>lhs;rw[h1]
  rw[qtp];rfl
 rw[h2,List.getElem?_append_right (by unfold qju;omega),show qju l k+j-(qcO (l.take k)).length=j by unfold qju;omega,List.getElem?_append_left (by unfold qsj;rw[qrR];exact hj)]
 exact qw1 _ _ _ _ hj
theorem qFt{a b:Int}(h:a=b):[AV.int a]=[AV.int b]:=by rw[h]
theorem qEA(x:qV [T91])(l:List (qV [T158]))(h:qqD x.1.2.2.2.2=some l):qwt Tryz.prog false 183 [] (qhX [T91] x) (l.map (tysA [T158])):=by
 obtain ⟨⟨ma,mb,mc,md,ss⟩,u⟩:=x
 change List (Int×(Int×Int)) at ss
 unfold qqD at h
 cases hb:quB ss with
 | false=>simp only at h;rw[hb] at h;cases h
 | true =>
 simp only at h;rw[hb] at h
 injection h with h
 subst h
 unfold quB at hb
 simp only[Bool.and_eq_true,Nat.ble_eq,List.all_eq_true,decide_eq_true_eq] at hb
 obtain ⟨hlen,hbd⟩:=hb
 refine ⟨enters_of Tryz.func183 (by kernel_rfl) rfl,fun lp T J Jx X hcJ hcx hone hy=>?_⟩
 have hyk:∀k (hk:k<ss.length) (j:Nat),j<(ss[k].2.2+1-ss[k].2.1).toNat→qws Tryz.prog T lp [.agg [.int ss[k].1,.int (ss[k].2.1+j)]] (J (qju ss k+j)) (J (qju ss k+j+1)) Jx:=fun k hk j hj=>by
  have h1:=qEz ss k hk j hj
  have h2:=(List.getElem?_eq_some_iff.1 h1).1
  have h3:=hy (qju ss k+j) (by rw[qyy];exact h2)
  rw[List.getElem_map,List.getElem_map,(List.getElem?_eq_some_iff.1 h1).2] at h3
  exact h3
 have hY:=Lib.hid hyk
 have hN:=Lib.hid (qBT ss)
 have hN0:qju ss 0=0:=rfl
 have hNl:qju ss ss.length=(((qcO ss).map qw0).map (tysA [T158])).length:=by rw[qC0,qyy]
 show MCT Tryz.prog T 183 [.val (.func (.yield lp) #[] #[]),.rp [.val (.int .i64 ma),.val (.int .i64 mb),.val (.int .i64 mc),.val (.int .i64 md),.sl 3 (ss.map fun s=>[.val (.int .i64 s.1),.val (.int .i64 s.2.1),.val (.int .i64 s.2.2)])]] [.nodef,.ghost X (J 0)] fun _ H'=>∃X',HE.ghost X' (J (((qcO ss).map qw0).map (tysA [T158])).length)∈H'∨HE.ghost X' Jx∈H'
 rw[← hNl,← hN0]
 clear hy hyk hNl
 generalize hrr:(ss.map fun s=>[AV.val (.int .i64 s.1),AV.val (.int .i64 s.2.1),AV.val (.int .i64 s.2.2)])=rr
 have hrl:rr.length=ss.length:=by rw[← hrr];simp
 have hra:∀k (hk:k<ss.length),rr[k]?=some [.int ss[k].1,.int ss[k].2.1,.int ss[k].2.2]:=fun k hk=>by rw[← hrr,List.getElem?_map,List.getElem?_eq_getElem hk];rfl
 (refine MCT.of Tryz.func183 (by kernel_rfl) rfl (by simp only[Tryz.ntmps183,List.length_cons,List.length_nil,Nat.reduceAdd,Nat.reduceSub,List.replicate_succ,List.replicate_zero,List.cons_append,List.nil_append];rfl) fun w0 S hM hT=>?_;have hF:Wf Fence.wide:=.inl rfl)
 (repeat' (first | ((first | with_reducible refine AL.id_ ?_ | with_reducible refine AE.id_ ?_);first | refine AL.build0 hF rfl rfl rfl (fun b=>⟨_,(by simp only[AV.put];rfl),?_⟩) | refine W.s rfl rfl (by first | exact AY.bx rfl (by simp only[evO,AV.get];rfl) rfl | exact AY.mkFn rfl (by simp only[List.map_cons,List.map_nil,evO,AV.get];rfl) | exact AY.mkFn1 rfl (by simp only[evO,AV.get];rfl) (by simp only[List.map_cons,List.map_nil,evO,AV.get];rfl) | exact hEQ rfl rfl rfl | exact Step2.sound (by first | (((first | (apply Step2.a;constructor) | (apply Step2.b;constructor))<;>first | infer_instance | skip)<;>(first | infer_instance | (refine w64c ?_;omega) | (refine qsV ?_;omega) | (refine qqq ?_;omega) | (refine qqr ?_;omega) | (refine qsS ?_;omega) | ((repeat (first | exact .head _ | refine .tail _ ?_));done) | assumption | (simp only[List.drop_succ_cons,List.drop_zero,List.length_map,Nat.zero_add,Nat.mul_one];rfl) | rfl | omega | (simp;done))) | fail) rfl | exact AY.call rfl rfl _ rfl (by fail) | exact AY.slice1 rfl rfl rfl (by rfl) (by first | (simp;done) | fail) | exact AY.callF rfl _ _ rfl _ rfl (by fail) | exact AY.old1k 0 rfl rfl rfl (by first | assumption | rfl) | exact AY.old1k 1 rfl rfl rfl (by first | assumption | rfl) | exact AY.old1k 2 rfl rfl rfl (by first | assumption | rfl) | exact AY.oldNk 0 rfl rfl rfl (by first | omega | (simp;omega)) (by first | assumption | rfl) | exact AY.oldNk 1 rfl rfl rfl (by first | omega | (simp;omega)) (by first | assumption | rfl)) (by simp only[AV.put];rfl) ?_ | (refine AL.nilK (hK _ _ ?_);clear hK K) | (refine AE.nil (hK _ ?_);clear hK K) | refine W.k rfl rfl (by simp only[AV.put];rfl) ?_ | refine AL.unguardS rfl rfl ?_ | refine AL.al hF rfl rfl rfl (by first | (simp only[Value.cells,List.map_cons,List.map_nil];rfl) | rfl) (fun b=>⟨_,(by simp only[AV.put];rfl),?_⟩) | refine AL.st1 hF rfl rfl rfl rfl (by simp only[evO,AV.get];rfl) (by first | exact qli | exact qlj | exact qlk | exact qll | exact qlm | exact qln | exact qlo | exact qlp) (by rfl) rfl (by rfl) (by first | (simp;done) | (simp;omega) | omega) (by simp only[List.set];rfl) ?_ | refine AL.stW hF rfl rfl rfl rfl (by simp only[evO,AV.get];rfl) (by first | exact qli | exact qlj | exact qlk | exact qll | exact qlm | exact qln | exact qlo | exact qlp) (by rfl) (by rfl) (by rfl) (by first | rfl | simp) (by simp only[List.set];rfl) ?_) | (with_reducible refine Awp.id_ ?_;first | refine Awp.seq ?_ | refine Awp.regionK (by first | (simp only[AV.putO,AV.put];rfl) | rfl) (fun K hK=>?_) | refine Awp.drawE (by first | (simp only[AV.putO,AV.put];rfl) | rfl) mixed rfl (by kernel_rfl) (fun K hK=>?_) | refine Awp.block ?_ | refine Awp.skip ?_ | refine Awp.exit ?_ | refine Awp.ret ?_ | refine Awp.condT rfl ?_ | refine Awp.condF rfl ?_) | refine qoG ?_ | refine qoH ?_ | refine qoI ?_ | refine qkx ?_ | refine qky ?_ | refine qkz ?_ | refine qkA rfl ?_ | ((first | ((first | with_reducible refine AL.id_ ?_ | with_reducible refine AE.id_ ?_);(fail_if_success refine W.on rfl ?_);refine W.p rfl rfl (by simp only[AV.put];rfl) (by simp only[AV.put];rfl) (fun hb=>?_) (fun hb=>?_)) | (with_reducible refine Awp.id_ ?_;refine Awp.cond _ rfl (fun hb=>?_) (fun hb=>?_)))<;>(try simp only[z1,z2,z3,z4,z5,z6,z7,z8,y5,y6,y7,y8,z9,x1,x2,x3,x4,x5,x6,x7,x8] at hb;try (exfalso;omega)))))
 refine Awp.loopM [4,5,10,11,12,13,14,15,16,17,18,19,20,21,22,23,24,25,26,27,28,29,30] [9] (fun n vs H=>∃(k:Nat) (X':Nat→Prop),n+k=ss.length∧vs=[.int k]∧H=[.nodef,.ghost X' (J (qju ss k))]) ss.length ⟨0,X,rfl,rfl,rfl⟩ ?_
 rintro n ju vs H ⟨k,X',hk,rfl,rfl⟩
 (refine Awp.slots (by first | (simp only[putl,mask,AV.put];rfl) | rfl) ?_)
 by_cases hlt:k<ss.length
 ·have hrow:=hra k hlt
  have hYk:=Lib.hid (hY.out k hlt)
  have hNk:=hN.out k hlt
  obtain ⟨hb1,hb2⟩:=hbd _ (List.getElem_mem hlt)
  generalize ss[k].1=hu at *
  generalize ss[k].2.1=lo at *
  generalize ss[k].2.2=hi at *
  (repeat' (first | ((first | with_reducible refine AL.id_ ?_ | with_reducible refine AE.id_ ?_);first | refine AL.build0 hF rfl rfl rfl (fun b=>⟨_,(by simp only[AV.put];rfl),?_⟩) | refine W.s rfl rfl (by first | exact AY.bx rfl (by simp only[evO,AV.get];rfl) rfl | exact AY.mkFn rfl (by simp only[List.map_cons,List.map_nil,evO,AV.get];rfl) | exact AY.mkFn1 rfl (by simp only[evO,AV.get];rfl) (by simp only[List.map_cons,List.map_nil,evO,AV.get];rfl) | exact hEQ rfl rfl rfl | exact Step2.sound (by first | (((first | (apply Step2.a;constructor) | (apply Step2.b;constructor))<;>first | infer_instance | skip)<;>(first | infer_instance | (refine w64c ?_;omega) | (refine qsV ?_;omega) | (refine qqq ?_;omega) | (refine qqr ?_;omega) | (refine qsS ?_;omega) | ((repeat (first | exact .head _ | refine .tail _ ?_));done) | assumption | (simp only[List.drop_succ_cons,List.drop_zero,List.length_map,Nat.zero_add,Nat.mul_one];rfl) | rfl | omega | (simp;done))) | fail) rfl | exact AY.call rfl rfl _ rfl (by fail) | exact AY.slice1 rfl rfl rfl (by rfl) (by first | (simp;done) | fail) | exact AY.callF rfl _ _ rfl _ rfl (by fail) | exact AY.old1k 0 rfl rfl rfl (by first | assumption | rfl) | exact AY.old1k 1 rfl rfl rfl (by first | assumption | rfl) | exact AY.old1k 2 rfl rfl rfl (by first | assumption | rfl) | exact AY.oldNk 0 rfl rfl rfl (by first | omega | (simp;omega)) (by first | assumption | rfl) | exact AY.oldNk 1 rfl rfl rfl (by first | omega | (simp;omega)) (by first | assumption | rfl)) (by simp only[AV.put];rfl) ?_ | (refine AL.nilK (hK _ _ ?_);clear hK K) | (refine AE.nil (hK _ ?_);clear hK K) | refine W.k rfl rfl (by simp only[AV.put];rfl) ?_ | refine AL.unguardS rfl rfl ?_ | refine AL.al hF rfl rfl rfl (by first | (simp only[Value.cells,List.map_cons,List.map_nil];rfl) | rfl) (fun b=>⟨_,(by simp only[AV.put];rfl),?_⟩) | refine AL.st1 hF rfl rfl rfl rfl (by simp only[evO,AV.get];rfl) (by first | exact qli | exact qlj | exact qlk | exact qll | exact qlm | exact qln | exact qlo | exact qlp) (by rfl) rfl (by rfl) (by first | (simp;done) | (simp;omega) | omega) (by simp only[List.set];rfl) ?_ | refine AL.stW hF rfl rfl rfl rfl (by simp only[evO,AV.get];rfl) (by first | exact qli | exact qlj | exact qlk | exact qll | exact qlm | exact qln | exact qlo | exact qlp) (by rfl) (by rfl) (by rfl) (by first | rfl | simp) (by simp only[List.set];rfl) ?_) | (with_reducible refine Awp.id_ ?_;first | refine Awp.seq ?_ | refine Awp.regionK (by first | (simp only[AV.putO,AV.put];rfl) | rfl) (fun K hK=>?_) | refine Awp.drawE (by first | (simp only[AV.putO,AV.put];rfl) | rfl) mixed rfl (by kernel_rfl) (fun K hK=>?_) | refine Awp.block ?_ | refine Awp.skip ?_ | refine Awp.exit ?_ | refine Awp.ret ?_ | refine Awp.condT rfl ?_ | refine Awp.condF rfl ?_) | refine qoG ?_ | refine qoH ?_ | refine qoI ?_ | refine qkx ?_ | refine qky ?_ | refine qkz ?_ | refine qkA rfl ?_ | ((first | ((first | with_reducible refine AL.id_ ?_ | with_reducible refine AE.id_ ?_);(fail_if_success refine W.on rfl ?_);refine W.p rfl rfl (by simp only[AV.put];rfl) (by simp only[AV.put];rfl) (fun hb=>?_) (fun hb=>?_)) | (with_reducible refine Awp.id_ ?_;refine Awp.cond _ rfl (fun hb=>?_) (fun hb=>?_)))<;>(try simp only[z1,z2,z3,z4,z5,z6,z7,z8,y5,y6,y7,y8,z9,x1,x2,x3,x4,x5,x6,x7,x8] at hb;try (exfalso;omega)))))
  refine Awp.loopM [16,17,18,19,20,21,22,23,24,25,26,27,28,29] [5] (fun n vs H=>∃(j:Nat) (X3:Nat→Prop),n+j=(hi+1-lo).toNat∧vs=[.int (lo+j)]∧H=[.blk b 95 [.int hu,.int lo,.int hi],.nodef,.ghost X3 (J (qju ss k+j))]) (hi+1-lo).toNat ⟨0,X',by omega,by simp;rfl,rfl⟩ ?_
  rintro n1 ju1 vs1 H1 ⟨j,X3,hj,rfl,rfl⟩
  (refine Awp.slots (by first | (simp only[putl,mask,AV.put];rfl) | rfl) ?_)
  by_cases hlt2:j<(hi+1-lo).toNat
  ·have hle:lo+j≤hi:=by omega
   have hye:=hYk.out j hlt2
   (repeat' (first | ((first | with_reducible refine AL.id_ ?_ | with_reducible refine AE.id_ ?_);first | refine AL.build0 hF rfl rfl rfl (fun b=>⟨_,(by simp only[AV.put];rfl),?_⟩) | refine W.s rfl rfl (by first | exact AY.bx rfl (by simp only[evO,AV.get];rfl) rfl | exact AY.mkFn rfl (by simp only[List.map_cons,List.map_nil,evO,AV.get];rfl) | exact AY.mkFn1 rfl (by simp only[evO,AV.get];rfl) (by simp only[List.map_cons,List.map_nil,evO,AV.get];rfl) | exact AY.build rfl (by simp only[List.map_cons,List.map_nil,evO,AV.get];rfl) (by simp only[List.map_cons,List.map_nil];repeat (first | exact Places.nil | apply Places.cons)) (by first | (simp only[zip3,qdi,qeS,qbU,qx,qhe,List.map_cons,List.map_nil,List.length_cons,List.length_nil,List.take_succ_cons,List.take_zero,List.drop_succ_cons,List.drop_zero,List.replicate_succ,List.replicate_zero,List.cons_append,List.nil_append,List.append_nil,List.drop_nil,List.take_nil,List.toList_toArray,Nat.sub_zero,Nat.reduceSub,Nat.reduceAdd,Nat.reduceMul,Nat.zero_mul,Nat.one_mul,Nat.mul_one,Nat.zero_add,Nat.le_refl,Nat.reduceLeDiff,and_self,true_and,and_true,if_true];rfl) | rfl) | exact AY.buildS rfl (by simp only[List.map_cons,List.map_nil,evO,AV.get];rfl) (by first | rfl | decide) (by omega) (by first | (simp only[zip3,qdi,qeS,qbU,qx,qhe,List.map_cons,List.map_nil,List.length_cons,List.length_nil,List.take_succ_cons,List.take_zero,List.drop_succ_cons,List.drop_zero,List.replicate_succ,List.replicate_zero,List.cons_append,List.nil_append,List.append_nil,List.drop_nil,List.take_nil,List.toList_toArray,Nat.sub_zero,Nat.reduceSub,Nat.reduceAdd,Nat.reduceMul,Nat.zero_mul,Nat.one_mul,Nat.mul_one,Nat.zero_add,Nat.le_refl,Nat.reduceLeDiff,and_self,true_and,and_true,if_true];rfl) | rfl) (by first | (simp only[zip3,qdi,qeS,qbU,qx,qhe,List.map_cons,List.map_nil,List.length_cons,List.length_nil,List.take_succ_cons,List.take_zero,List.drop_succ_cons,List.drop_zero,List.replicate_succ,List.replicate_zero,List.cons_append,List.nil_append,List.append_nil,List.drop_nil,List.take_nil,List.toList_toArray,Nat.sub_zero,Nat.reduceSub,Nat.reduceAdd,Nat.reduceMul,Nat.zero_mul,Nat.one_mul,Nat.mul_one,Nat.zero_add,Nat.le_refl,Nat.reduceLeDiff,and_self,true_and,and_true,if_true];rfl) | rfl) | exact hEQ rfl rfl rfl | exact Step2.sound (by first | (((first | (apply Step2.a;constructor) | (apply Step2.b;constructor))<;>first | infer_instance | skip)<;>(first | infer_instance | (refine w64c ?_;omega) | (refine qsV ?_;omega) | (refine qqq ?_;omega) | (refine qqr ?_;omega) | (refine qsS ?_;omega) | ((repeat (first | exact .head _ | refine .tail _ ?_));done) | assumption | (simp only[List.drop_succ_cons,List.drop_zero,List.length_map,Nat.zero_add,Nat.mul_one];rfl) | rfl | omega | (simp;done))) | fail) rfl | exact AY.call rfl rfl _ rfl (by fail) | exact AY.slice1 rfl rfl rfl (by rfl) (by first | (simp;done) | fail) | exact AY.callF rfl _ _ rfl _ rfl (by fail) | exact AY.old1k 0 rfl rfl rfl (by first | assumption | rfl) | exact AY.old1k 1 rfl rfl rfl (by first | assumption | rfl) | exact AY.old1k 2 rfl rfl rfl (by first | assumption | rfl) | exact AY.oldNk 0 rfl rfl rfl (by first | omega | (simp;omega)) (by first | assumption | rfl) | exact AY.oldNk 1 rfl rfl rfl (by first | omega | (simp;omega)) (by first | assumption | rfl)) (by simp only[AV.put];rfl) ?_ | (refine AL.nilK (hK _ _ ?_);clear hK K) | (refine AE.nil (hK _ ?_);clear hK K) | refine W.k rfl rfl (by simp only[AV.put];rfl) ?_ | refine AL.unguardS rfl rfl ?_ | refine AL.al hF rfl rfl rfl (by first | (simp only[Value.cells,List.map_cons,List.map_nil];rfl) | rfl) (fun b=>⟨_,(by simp only[AV.put];rfl),?_⟩) | refine AL.st1 hF rfl rfl rfl rfl (by simp only[evO,AV.get];rfl) (by first | exact qli | exact qlj | exact qlk | exact qll | exact qlm | exact qln | exact qlo | exact qlp) (by rfl) rfl (by rfl) (by first | (simp;done) | (simp;omega) | omega) (by simp only[List.set];rfl) ?_ | refine AL.stW hF rfl rfl rfl rfl (by simp only[evO,AV.get];rfl) (by first | exact qli | exact qlj | exact qlk | exact qll | exact qlm | exact qln | exact qlo | exact qlp) (by rfl) (by rfl) (by rfl) (by first | rfl | simp) (by simp only[List.set];rfl) ?_) | (with_reducible refine Awp.id_ ?_;first | refine Awp.seq ?_ | refine Awp.regionK (by first | (simp only[AV.putO,AV.put];rfl) | rfl) (fun K hK=>?_) | refine Awp.drawE (by first | (simp only[AV.putO,AV.put];rfl) | rfl) mixed rfl (by kernel_rfl) (fun K hK=>?_) | refine Awp.block ?_ | refine Awp.skip ?_ | refine Awp.exit ?_ | refine Awp.ret ?_ | refine Awp.condT rfl ?_ | refine Awp.condF rfl ?_) | refine qoG ?_ | refine qoH ?_ | refine qoI ?_ | refine qkx ?_ | refine qky ?_ | refine qkz ?_ | refine qkA rfl ?_ | ((first | ((first | with_reducible refine AL.id_ ?_ | with_reducible refine AE.id_ ?_);(fail_if_success refine W.on rfl ?_);refine W.p rfl rfl (by simp only[AV.put];rfl) (by simp only[AV.put];rfl) (fun hb=>?_) (fun hb=>?_)) | (with_reducible refine Awp.id_ ?_;refine Awp.cond _ rfl (fun hb=>?_) (fun hb=>?_)))<;>(try simp only[z1,z2,z3,z4,z5,z6,z7,z8,y5,y6,y7,y8,z9,x1,x2,x3,x4,x5,x6,x7,x8] at hb;try (exfalso;omega)))))
   have hgho:∀i e,([HE.blk b 95 [.int hu,.int lo,.int hi],.nodef,.ghost X3 (J (qju ss k+j))])[i]?=some e→e.isGhost→i=2:=fun i e h1 h2=>by
    match i,h1 with
    | 0,h1=>cases h1;exact h2.elim
    | 1,h1=>cases h1;exact h2.elim
    | 2,_=>rfl
   refine AL.yield 2 rfl rfl rfl rfl _ rfl rfl hgho (by simp) (fun b hA=>hT b fun h=>(hA.1 h).1) hye (hcJ _) hcx (fun X4=>?_) (fun X4=>?_)
   ·refine AL.norm (by simp only[AV.put];rfl) rfl ?_
    (repeat' (first | ((first | with_reducible refine AL.id_ ?_ | with_reducible refine AE.id_ ?_);first | refine AL.build0 hF rfl rfl rfl (fun b=>⟨_,(by simp only[AV.put];rfl),?_⟩) | refine W.s rfl rfl (by first | exact AY.bx rfl (by simp only[evO,AV.get];rfl) rfl | exact AY.mkFn rfl (by simp only[List.map_cons,List.map_nil,evO,AV.get];rfl) | exact AY.mkFn1 rfl (by simp only[evO,AV.get];rfl) (by simp only[List.map_cons,List.map_nil,evO,AV.get];rfl) | exact AY.build rfl (by simp only[List.map_cons,List.map_nil,evO,AV.get];rfl) (by simp only[List.map_cons,List.map_nil];repeat (first | exact Places.nil | apply Places.cons)) (by first | (simp only[zip3,qdi,qeS,qbU,qx,qhe,List.map_cons,List.map_nil,List.length_cons,List.length_nil,List.take_succ_cons,List.take_zero,List.drop_succ_cons,List.drop_zero,List.replicate_succ,List.replicate_zero,List.cons_append,List.nil_append,List.append_nil,List.drop_nil,List.take_nil,List.toList_toArray,Nat.sub_zero,Nat.reduceSub,Nat.reduceAdd,Nat.reduceMul,Nat.zero_mul,Nat.one_mul,Nat.mul_one,Nat.zero_add,Nat.le_refl,Nat.reduceLeDiff,and_self,true_and,and_true,if_true];rfl) | rfl) | exact AY.buildS rfl (by simp only[List.map_cons,List.map_nil,evO,AV.get];rfl) (by first | rfl | decide) (by omega) (by first | (simp only[zip3,qdi,qeS,qbU,qx,qhe,List.map_cons,List.map_nil,List.length_cons,List.length_nil,List.take_succ_cons,List.take_zero,List.drop_succ_cons,List.drop_zero,List.replicate_succ,List.replicate_zero,List.cons_append,List.nil_append,List.append_nil,List.drop_nil,List.take_nil,List.toList_toArray,Nat.sub_zero,Nat.reduceSub,Nat.reduceAdd,Nat.reduceMul,Nat.zero_mul,Nat.one_mul,Nat.mul_one,Nat.zero_add,Nat.le_refl,Nat.reduceLeDiff,and_self,true_and,and_true,if_true];rfl) | rfl) (by first | (simp only[zip3,qdi,qeS,qbU,qx,qhe,List.map_cons,List.map_nil,List.length_cons,List.length_nil,List.take_succ_cons,List.take_zero,List.drop_succ_cons,List.drop_zero,List.replicate_succ,List.replicate_zero,List.cons_append,List.nil_append,List.append_nil,List.drop_nil,List.take_nil,List.toList_toArray,Nat.sub_zero,Nat.reduceSub,Nat.reduceAdd,Nat.reduceMul,Nat.zero_mul,Nat.one_mul,Nat.mul_one,Nat.zero_add,Nat.le_refl,Nat.reduceLeDiff,and_self,true_and,and_true,if_true];rfl) | rfl) | exact hEQ rfl rfl rfl | exact Step2.sound (by first | (((first | (apply Step2.a;constructor) | (apply Step2.b;constructor))<;>first | infer_instance | skip)<;>(first | infer_instance | (refine w64c ?_;omega) | (refine qsV ?_;omega) | (refine qqq ?_;omega) | (refine qqr ?_;omega) | (refine qsS ?_;omega) | ((repeat (first | exact .head _ | refine .tail _ ?_));done) | assumption | (simp only[List.drop_succ_cons,List.drop_zero,List.length_map,Nat.zero_add,Nat.mul_one];rfl) | rfl | omega | (simp;done))) | fail) rfl | exact AY.call rfl rfl _ rfl (by fail) | exact AY.slice1 rfl rfl rfl (by rfl) (by first | (simp;done) | fail) | exact AY.callF rfl _ _ rfl _ rfl (by fail) | exact AY.old1k 0 rfl rfl rfl (by first | assumption | rfl) | exact AY.old1k 1 rfl rfl rfl (by first | assumption | rfl) | exact AY.old1k 2 rfl rfl rfl (by first | assumption | rfl) | exact AY.oldNk 0 rfl rfl rfl (by first | omega | (simp;omega)) (by first | assumption | rfl) | exact AY.oldNk 1 rfl rfl rfl (by first | omega | (simp;omega)) (by first | assumption | rfl)) (by simp only[AV.put];rfl) ?_ | (refine AL.nilK (hK _ _ ?_);clear hK K) | (refine AE.nil (hK _ ?_);clear hK K) | refine W.k rfl rfl (by simp only[AV.put];rfl) ?_ | refine AL.unguardS rfl rfl ?_ | refine AL.al hF rfl rfl rfl (by first | (simp only[Value.cells,List.map_cons,List.map_nil];rfl) | rfl) (fun b=>⟨_,(by simp only[AV.put];rfl),?_⟩) | refine AL.st1 hF rfl rfl rfl rfl (by simp only[evO,AV.get];rfl) (by first | exact qli | exact qlj | exact qlk | exact qll | exact qlm | exact qln | exact qlo | exact qlp) (by rfl) rfl (by rfl) (by first | (simp;done) | (simp;omega) | omega) (by simp only[List.set];rfl) ?_ | refine AL.stW hF rfl rfl rfl rfl (by simp only[evO,AV.get];rfl) (by first | exact qli | exact qlj | exact qlk | exact qll | exact qlm | exact qln | exact qlo | exact qlp) (by rfl) (by rfl) (by rfl) (by first | rfl | simp) (by simp only[List.set];rfl) ?_) | (with_reducible refine Awp.id_ ?_;first | refine Awp.seq ?_ | refine Awp.regionK (by first | (simp only[AV.putO,AV.put];rfl) | rfl) (fun K hK=>?_) | refine Awp.drawE (by first | (simp only[AV.putO,AV.put];rfl) | rfl) mixed rfl (by kernel_rfl) (fun K hK=>?_) | refine Awp.block ?_ | refine Awp.skip ?_ | refine Awp.exit ?_ | refine Awp.ret ?_ | refine Awp.condT rfl ?_ | refine Awp.condF rfl ?_) | refine qoG ?_ | refine qoH ?_ | refine qoI ?_ | refine qkx ?_ | refine qky ?_ | refine qkz ?_ | refine qkA rfl ?_ | ((first | ((first | with_reducible refine AL.id_ ?_ | with_reducible refine AE.id_ ?_);(fail_if_success refine W.on rfl ?_);refine W.p rfl rfl (by simp only[AV.put];rfl) (by simp only[AV.put];rfl) (fun hb=>?_) (fun hb=>?_)) | (with_reducible refine Awp.id_ ?_;refine Awp.cond _ rfl (fun hb=>?_) (fun hb=>?_)))<;>(try simp only[z1,z2,z3,z4,z5,z6,z7,z8,y5,y6,y7,y8,z9,x1,x2,x3,x4,x5,x6,x7,x8] at hb;try (exfalso;omega)))))
    (refine qFA (n1-1) (by first | (simp only[AV.putO,AV.put];rfl) | rfl) (by omega) ?_ (by simp only[List.map,AV.get,mask,putl,AV.put]))
    exact ⟨j+1,X4,by omega,qFt (by omega),rfl⟩
   ·refine AL.norm (by simp only[AV.put];rfl) rfl ?_
    (repeat' (first | ((first | with_reducible refine AL.id_ ?_ | with_reducible refine AE.id_ ?_);first | refine AL.build0 hF rfl rfl rfl (fun b=>⟨_,(by simp only[AV.put];rfl),?_⟩) | refine W.s rfl rfl (by first | exact AY.bx rfl (by simp only[evO,AV.get];rfl) rfl | exact AY.mkFn rfl (by simp only[List.map_cons,List.map_nil,evO,AV.get];rfl) | exact AY.mkFn1 rfl (by simp only[evO,AV.get];rfl) (by simp only[List.map_cons,List.map_nil,evO,AV.get];rfl) | exact AY.build rfl (by simp only[List.map_cons,List.map_nil,evO,AV.get];rfl) (by simp only[List.map_cons,List.map_nil];repeat (first | exact Places.nil | apply Places.cons)) (by first | (simp only[zip3,qdi,qeS,qbU,qx,qhe,List.map_cons,List.map_nil,List.length_cons,List.length_nil,List.take_succ_cons,List.take_zero,List.drop_succ_cons,List.drop_zero,List.replicate_succ,List.replicate_zero,List.cons_append,List.nil_append,List.append_nil,List.drop_nil,List.take_nil,List.toList_toArray,Nat.sub_zero,Nat.reduceSub,Nat.reduceAdd,Nat.reduceMul,Nat.zero_mul,Nat.one_mul,Nat.mul_one,Nat.zero_add,Nat.le_refl,Nat.reduceLeDiff,and_self,true_and,and_true,if_true];rfl) | rfl) | exact AY.buildS rfl (by simp only[List.map_cons,List.map_nil,evO,AV.get];rfl) (by first | rfl | decide) (by omega) (by first | (simp only[zip3,qdi,qeS,qbU,qx,qhe,List.map_cons,List.map_nil,List.length_cons,List.length_nil,List.take_succ_cons,List.take_zero,List.drop_succ_cons,List.drop_zero,List.replicate_succ,List.replicate_zero,List.cons_append,List.nil_append,List.append_nil,List.drop_nil,List.take_nil,List.toList_toArray,Nat.sub_zero,Nat.reduceSub,Nat.reduceAdd,Nat.reduceMul,Nat.zero_mul,Nat.one_mul,Nat.mul_one,Nat.zero_add,Nat.le_refl,Nat.reduceLeDiff,and_self,true_and,and_true,if_true];rfl) | rfl) (by first | (simp only[zip3,qdi,qeS,qbU,qx,qhe,List.map_cons,List.map_nil,List.length_cons,List.length_nil,List.take_succ_cons,List.take_zero,List.drop_succ_cons,List.drop_zero,List.replicate_succ,List.replicate_zero,List.cons_append,List.nil_append,List.append_nil,List.drop_nil,List.take_nil,List.toList_toArray,Nat.sub_zero,Nat.reduceSub,Nat.reduceAdd,Nat.reduceMul,Nat.zero_mul,Nat.one_mul,Nat.mul_one,Nat.zero_add,Nat.le_refl,Nat.reduceLeDiff,and_self,true_and,and_true,if_true];rfl) | rfl) | exact hEQ rfl rfl rfl | exact Step2.sound (by first | (((first | (apply Step2.a;constructor) | (apply Step2.b;constructor))<;>first | infer_instance | skip)<;>(first | infer_instance | (refine w64c ?_;omega) | (refine qsV ?_;omega) | (refine qqq ?_;omega) | (refine qqr ?_;omega) | (refine qsS ?_;omega) | ((repeat (first | exact .head _ | refine .tail _ ?_));done) | assumption | (simp only[List.drop_succ_cons,List.drop_zero,List.length_map,Nat.zero_add,Nat.mul_one];rfl) | rfl | omega | (simp;done))) | fail) rfl | exact AY.call rfl rfl _ rfl (by fail) | exact AY.slice1 rfl rfl rfl (by rfl) (by first | (simp;done) | fail) | exact AY.callF rfl _ _ rfl _ rfl (by fail) | exact AY.old1k 0 rfl rfl rfl (by first | assumption | rfl) | exact AY.old1k 1 rfl rfl rfl (by first | assumption | rfl) | exact AY.old1k 2 rfl rfl rfl (by first | assumption | rfl) | exact AY.oldNk 0 rfl rfl rfl (by first | omega | (simp;omega)) (by first | assumption | rfl) | exact AY.oldNk 1 rfl rfl rfl (by first | omega | (simp;omega)) (by first | assumption | rfl)) (by simp only[AV.put];rfl) ?_ | (refine AL.nilK (hK _ _ ?_);clear hK K) | (refine AE.nil (hK _ ?_);clear hK K) | refine W.k rfl rfl (by simp only[AV.put];rfl) ?_ | refine AL.unguardS rfl rfl ?_ | refine AL.al hF rfl rfl rfl (by first | (simp only[Value.cells,List.map_cons,List.map_nil];rfl) | rfl) (fun b=>⟨_,(by simp only[AV.put];rfl),?_⟩) | refine AL.st1 hF rfl rfl rfl rfl (by simp only[evO,AV.get];rfl) (by first | exact qli | exact qlj | exact qlk | exact qll | exact qlm | exact qln | exact qlo | exact qlp) (by rfl) rfl (by rfl) (by first | (simp;done) | (simp;omega) | omega) (by simp only[List.set];rfl) ?_ | refine AL.stW hF rfl rfl rfl rfl (by simp only[evO,AV.get];rfl) (by first | exact qli | exact qlj | exact qlk | exact qll | exact qlm | exact qln | exact qlo | exact qlp) (by rfl) (by rfl) (by rfl) (by first | rfl | simp) (by simp only[List.set];rfl) ?_) | (with_reducible refine Awp.id_ ?_;first | refine Awp.seq ?_ | refine Awp.regionK (by first | (simp only[AV.putO,AV.put];rfl) | rfl) (fun K hK=>?_) | refine Awp.drawE (by first | (simp only[AV.putO,AV.put];rfl) | rfl) mixed rfl (by kernel_rfl) (fun K hK=>?_) | refine Awp.block ?_ | refine Awp.skip ?_ | refine Awp.exit ?_ | refine Awp.ret ?_ | refine Awp.condT rfl ?_ | refine Awp.condF rfl ?_) | refine qoG ?_ | refine qoH ?_ | refine qoI ?_ | refine qkx ?_ | refine qky ?_ | refine qkz ?_ | refine qkA rfl ?_ | ((first | ((first | with_reducible refine AL.id_ ?_ | with_reducible refine AE.id_ ?_);(fail_if_success refine W.on rfl ?_);refine W.p rfl rfl (by simp only[AV.put];rfl) (by simp only[AV.put];rfl) (fun hb=>?_) (fun hb=>?_)) | (with_reducible refine Awp.id_ ?_;refine Awp.cond _ rfl (fun hb=>?_) (fun hb=>?_)))<;>(try simp only[z1,z2,z3,z4,z5,z6,z7,z8,y5,y6,y7,y8,z9,x1,x2,x3,x4,x5,x6,x7,x8] at hb;try (exfalso;omega)))))
    exact qCf rfl ⟨X4,.inr (List.mem_of_getElem? (i:=2) rfl)⟩
  ·have hle:¬(lo+j≤hi):=by omega
   (repeat' (first | ((first | with_reducible refine AL.id_ ?_ | with_reducible refine AE.id_ ?_);first | refine AL.build0 hF rfl rfl rfl (fun b=>⟨_,(by simp only[AV.put];rfl),?_⟩) | refine W.s rfl rfl (by first | exact AY.bx rfl (by simp only[evO,AV.get];rfl) rfl | exact AY.mkFn rfl (by simp only[List.map_cons,List.map_nil,evO,AV.get];rfl) | exact AY.mkFn1 rfl (by simp only[evO,AV.get];rfl) (by simp only[List.map_cons,List.map_nil,evO,AV.get];rfl) | exact hEQ rfl rfl rfl | exact Step2.sound (by first | (((first | (apply Step2.a;constructor) | (apply Step2.b;constructor))<;>first | infer_instance | skip)<;>(first | infer_instance | (refine w64c ?_;omega) | (refine qsV ?_;omega) | (refine qqq ?_;omega) | (refine qqr ?_;omega) | (refine qsS ?_;omega) | ((repeat (first | exact .head _ | refine .tail _ ?_));done) | assumption | (simp only[List.drop_succ_cons,List.drop_zero,List.length_map,Nat.zero_add,Nat.mul_one];rfl) | rfl | omega | (simp;done))) | fail) rfl | exact AY.call rfl rfl _ rfl (by fail) | exact AY.slice1 rfl rfl rfl (by rfl) (by first | (simp;done) | fail) | exact AY.callF rfl _ _ rfl _ rfl (by fail) | exact AY.old1k 0 rfl rfl rfl (by first | assumption | rfl) | exact AY.old1k 1 rfl rfl rfl (by first | assumption | rfl) | exact AY.old1k 2 rfl rfl rfl (by first | assumption | rfl) | exact AY.oldNk 0 rfl rfl rfl (by first | omega | (simp;omega)) (by first | assumption | rfl) | exact AY.oldNk 1 rfl rfl rfl (by first | omega | (simp;omega)) (by first | assumption | rfl)) (by simp only[AV.put];rfl) ?_ | (refine AL.nilK (hK _ _ ?_);clear hK K) | (refine AE.nil (hK _ ?_);clear hK K) | refine W.k rfl rfl (by simp only[AV.put];rfl) ?_ | refine AL.unguardS rfl rfl ?_ | refine AL.al hF rfl rfl rfl (by first | (simp only[Value.cells,List.map_cons,List.map_nil];rfl) | rfl) (fun b=>⟨_,(by simp only[AV.put];rfl),?_⟩) | refine AL.st1 hF rfl rfl rfl rfl (by simp only[evO,AV.get];rfl) (by first | exact qli | exact qlj | exact qlk | exact qll | exact qlm | exact qln | exact qlo | exact qlp) (by rfl) rfl (by rfl) (by first | (simp;done) | (simp;omega) | omega) (by simp only[List.set];rfl) ?_ | refine AL.stW hF rfl rfl rfl rfl (by simp only[evO,AV.get];rfl) (by first | exact qli | exact qlj | exact qlk | exact qll | exact qlm | exact qln | exact qlo | exact qlp) (by rfl) (by rfl) (by rfl) (by first | rfl | simp) (by simp only[List.set];rfl) ?_) | (with_reducible refine Awp.id_ ?_;first | refine Awp.seq ?_ | refine Awp.regionK (by first | (simp only[AV.putO,AV.put];rfl) | rfl) (fun K hK=>?_) | refine Awp.drawE (by first | (simp only[AV.putO,AV.put];rfl) | rfl) mixed rfl (by kernel_rfl) (fun K hK=>?_) | refine Awp.block ?_ | refine Awp.skip ?_ | refine Awp.exit ?_ | refine Awp.ret ?_ | refine Awp.condT rfl ?_ | refine Awp.condF rfl ?_) | refine qoG ?_ | refine qoH ?_ | refine qoI ?_ | refine qkx ?_ | refine qky ?_ | refine qkz ?_ | refine qkA rfl ?_ | ((first | ((first | with_reducible refine AL.id_ ?_ | with_reducible refine AE.id_ ?_);(fail_if_success refine W.on rfl ?_);refine W.p rfl rfl (by simp only[AV.put];rfl) (by simp only[AV.put];rfl) (fun hb=>?_) (fun hb=>?_)) | (with_reducible refine Awp.id_ ?_;refine Awp.cond _ rfl (fun hb=>?_) (fun hb=>?_)))<;>(try simp only[z1,z2,z3,z4,z5,z6,z7,z8,y5,y6,y7,y8,z9,x1,x2,x3,x4,x5,x6,x7,x8] at hb;try (exfalso;omega)))))
   (refine qDL (n-1) (List.sublist_cons_self _ _) (by first | (simp only[AV.putO,AV.put];rfl) | rfl) (by omega) ?_ (by simp only[List.map,AV.get,mask,putl,AV.put]))
   exact ⟨k+1,X3,by omega,qFt (by omega),by rw[hNk,show (hi+1-lo).toNat=j by omega]⟩
 ·(repeat' (first | ((first | with_reducible refine AL.id_ ?_ | with_reducible refine AE.id_ ?_);first | refine AL.build0 hF rfl rfl rfl (fun b=>⟨_,(by simp only[AV.put];rfl),?_⟩) | refine W.s rfl rfl (by first | exact AY.bx rfl (by simp only[evO,AV.get];rfl) rfl | exact AY.mkFn rfl (by simp only[List.map_cons,List.map_nil,evO,AV.get];rfl) | exact AY.mkFn1 rfl (by simp only[evO,AV.get];rfl) (by simp only[List.map_cons,List.map_nil,evO,AV.get];rfl) | exact hEQ rfl rfl rfl | exact Step2.sound (by first | (((first | (apply Step2.a;constructor) | (apply Step2.b;constructor))<;>first | infer_instance | skip)<;>(first | infer_instance | (refine w64c ?_;omega) | (refine qsV ?_;omega) | (refine qqq ?_;omega) | (refine qqr ?_;omega) | (refine qsS ?_;omega) | ((repeat (first | exact .head _ | refine .tail _ ?_));done) | assumption | (simp only[List.drop_succ_cons,List.drop_zero,List.length_map,Nat.zero_add,Nat.mul_one];rfl) | rfl | omega | (simp;done))) | fail) rfl | exact AY.call rfl rfl _ rfl (by fail) | exact AY.slice1 rfl rfl rfl (by rfl) (by first | (simp;done) | fail) | exact AY.callF rfl _ _ rfl _ rfl (by fail) | exact AY.old1k 0 rfl rfl rfl (by first | assumption | rfl) | exact AY.old1k 1 rfl rfl rfl (by first | assumption | rfl) | exact AY.old1k 2 rfl rfl rfl (by first | assumption | rfl) | exact AY.oldNk 0 rfl rfl rfl (by first | omega | (simp;omega)) (by first | assumption | rfl) | exact AY.oldNk 1 rfl rfl rfl (by first | omega | (simp;omega)) (by first | assumption | rfl)) (by simp only[AV.put];rfl) ?_ | (refine AL.nilK (hK _ _ ?_);clear hK K) | (refine AE.nil (hK _ ?_);clear hK K) | refine W.k rfl rfl (by simp only[AV.put];rfl) ?_ | refine AL.unguardS rfl rfl ?_ | refine AL.al hF rfl rfl rfl (by first | (simp only[Value.cells,List.map_cons,List.map_nil];rfl) | rfl) (fun b=>⟨_,(by simp only[AV.put];rfl),?_⟩) | refine AL.st1 hF rfl rfl rfl rfl (by simp only[evO,AV.get];rfl) (by first | exact qli | exact qlj | exact qlk | exact qll | exact qlm | exact qln | exact qlo | exact qlp) (by rfl) rfl (by rfl) (by first | (simp;done) | (simp;omega) | omega) (by simp only[List.set];rfl) ?_ | refine AL.stW hF rfl rfl rfl rfl (by simp only[evO,AV.get];rfl) (by first | exact qli | exact qlj | exact qlk | exact qll | exact qlm | exact qln | exact qlo | exact qlp) (by rfl) (by rfl) (by rfl) (by first | rfl | simp) (by simp only[List.set];rfl) ?_) | (with_reducible refine Awp.id_ ?_;first | refine Awp.seq ?_ | refine Awp.regionK (by first | (simp only[AV.putO,AV.put];rfl) | rfl) (fun K hK=>?_) | refine Awp.drawE (by first | (simp only[AV.putO,AV.put];rfl) | rfl) mixed rfl (by kernel_rfl) (fun K hK=>?_) | refine Awp.block ?_ | refine Awp.skip ?_ | refine Awp.exit ?_ | refine Awp.ret ?_ | refine Awp.condT rfl ?_ | refine Awp.condF rfl ?_) | refine qoG ?_ | refine qoH ?_ | refine qoI ?_ | refine qkx ?_ | refine qky ?_ | refine qkz ?_ | refine qkA rfl ?_ | ((first | ((first | with_reducible refine AL.id_ ?_ | with_reducible refine AE.id_ ?_);(fail_if_success refine W.on rfl ?_);refine W.p rfl rfl (by simp only[AV.put];rfl) (by simp only[AV.put];rfl) (fun hb=>?_) (fun hb=>?_)) | (with_reducible refine Awp.id_ ?_;refine Awp.cond _ rfl (fun hb=>?_) (fun hb=>?_)))<;>(try simp only[z1,z2,z3,z4,z5,z6,z7,z8,y5,y6,y7,y8,z9,x1,x2,x3,x4,x5,x6,x7,x8] at hb;try (exfalso;omega)))))
  exact qDN rfl ⟨X',.inl (by rw[show ss.length=k by omega];exact List.mem_of_getElem? (i:=1) rfl)⟩
def qyz:Itr Tryz.prog:=⟨183,[T91],[T158],fun x=>qqD x.1.2.2.2.2,fun x l h=>qEA x l h⟩
section
def qpK(n:Nat):CL Tryz.prog:=⟨[],[],0,fun _=>false⟩
def qtH(n:Nat):Nat→St→PT (DEx×St):=fun _ _=>.fail
theorem qzU(n:Nat):qbj (qpK n).c (qv Tryz.f152) 0=[]:=by kernel_rfl
theorem qzV:Tryz.f152.body=some (qv Tryz.f152):=by kernel_rfl
abbrev qqE:List Ar:=[.d T91]
abbrev qnZ:List Ty:=[T91]
def quC(n:Nat)(x:qgM qqE):Option (qV qnZ):=(qgd tab (qpK n) (qtH n) (qv Tryz.f152) 0 (qk0 qqE 4 x)).run (qFs 2 183 qnZ)
def quD(n:Nat):Ct Tryz.prog:=⟨152,qqE,.fb 183 qnZ,quC n,fun _ _ h=>qGw (B:=tab) (cs:=qpK n) (lo:=qtH n) (i:=2) (g:=183) (caps:=qnZ) Tryz.func152 (by kernel_rfl) qzV (by kernel_rfl) (qkD (qzU n) all_nil) h⟩
def qsk(n:Nat):CL Tryz.prog:=⟨[],[],0,nof⟩
def qn0(n:Nat):Cw Tryz.prog:=mkW tab (qsk n) [] Tryz.func182 [.v (.t 1) T158,.obj (.t 0) true 129 5,.v (.c 0 0) T126,.row (.c 0 2) true T91 91,.row (.c 0 3) true T91 91,.mpi (.c 0 4) true T158 T3] 2 [[.v (.t 0) T3,.obj (.t 1) true 129 5,.v (.c 0 0) T126,.row (.c 0 2) true T91 91,.row (.c 0 3) true T91 91,.mpi (.c 0 4) true T158 T3]] (by kernel_rfl)
def qmL(n:Nat):CL Tryz.prog:=⟨[quD n],[qn0 n],0,nof⟩
def qmM(n:Nat):LK Tryz.prog false:=mkG tab (qmL n) [] Tryz.f151 [true,false,true,false] 0 9 [10] qyz [.obj (.t 0) true 129 5,.v (.c 0 0) T126,.row (.c 0 2) true T91 91,.row (.c 0 3) true T91 91,.mpi (.c 0 4) true T158 T3,.obj (.t 2) false 121 1,.pal (.c 4 0) 0 0,.obj (.t 3) false 91 5,.v (.c 5 0) T91,.obj (.t 4) false 158 2,.v (.c 6 0) T158,.obj (.t 5) false 3 1,.v (.c 7 0) T3] [(.ret,[.obj (.t 0) true 129 5,.v (.c 0 0) T126,.row (.c 0 2) true T91 91,.row (.c 0 3) true T91 91,.mpi (.c 0 4) true T158 T3,.obj (.t 4) false 158 2,.v (.c 4 0) T158,.obj (.t 5) false 3 1,.v (.c 5 0) T3])] (by kernel_rfl)
def qnt(n:Nat):Cw Tryz.prog:=mkW tab (qmL n) [qmM n] Tryz.func151 [.v (.t 1) T91,.obj (.t 0) true 129 5,.v (.c 0 0) T126,.row (.c 0 2) true T91 91,.row (.c 0 3) true T91 91,.mpi (.c 0 4) true T158 T3] 2 [[.v (.t 0) T158,.v (.t 1) T3,.obj (.t 2) true 129 5,.v (.c 0 0) T126,.row (.c 0 2) true T91 91,.row (.c 0 3) true T91 91,.mpi (.c 0 4) true T158 T3]] (by kernel_rfl)
def qlf(n:Nat):CL Tryz.prog:=⟨[quD n],[qnt n],0,nof⟩
def qow(n:Nat):LK Tryz.prog false:=mkG tab (qlf n) [] Tryz.f120 [true,true,false,true,false,false,true,true,false,false,true,true,true,true,true,false] 1 60 [61] qyz [.nilf (.t 2),.v (.t 17) T35,.v (.t 18) T3,.v (.t 19) T3,.obj (.t 7) false 121 1,.obj (.c 0 0) false 129 5,.v (.c 1 0) T126,.row (.c 1 2) false T91 91,.row (.c 1 3) false T91 91,.mpi (.c 1 4) false T158 T3,.obj (.t 9) false 91 5,.v (.c 5 0) T91] [] (by kernel_rfl)
def qox(n:Nat):LK Tryz.prog false:=mkL tab (qlf n) [qow n] Tryz.f120 [true,true,false,true,false,false] 0 n [.nilf (.t 2),.v (.t 17) T35,.v (.t 18) T3,.v (.t 19) T3,.obj (.t 7) false 121 1,.obj (.c 0 0) false 129 5,.v (.c 1 0) T126,.row (.c 1 2) false T91 91,.row (.c 1 3) false T91 91,.mpi (.c 1 4) false T158 T3] [(.exit 0,[.obj (.t 7) false 121 1,.obj (.c 0 0) false 129 5,.v (.c 1 0) T126,.row (.c 1 2) false T91 91,.row (.c 1 3) false T91 91,.mpi (.c 1 4) false T158 T3])] (by kernel_rfl)
def qpr(n:Nat):Cw Tryz.prog:=mkW tab (qlf n) [qox n] Tryz.func120 [.v (.t 0) T126,.v (.t 1) T35,.nilf (.t 2)] 3 [[.obj (.t 0) false 129 5,.v (.c 0 0) T126,.row (.c 0 2) false T91 91,.row (.c 0 3) false T91 91,.mpi (.c 0 4) false T158 T3]] (by kernel_rfl)
def qyR(n:Nat):CL Tryz.prog:=⟨[],[qna n,qfn n,qk2 n,qdk n,qdl n],1,nof⟩
def quE(n:Nat):Ct Tryz.prog:=mkC tab (qyR n) [] Tryz.func121 [.d T35] [T35] (by kernel_rfl)
def qw2(n:Nat):CL Tryz.prog:=⟨[qm8 n,qlY n],[],0,nof⟩
def qoX(n:Nat):Cw Tryz.prog:=mkW tab (qw2 n) [] Tryz.func117 [.v (.t 0) T158,.obj (.t 1) true 126 2,.v (.c 0 0) T126] 2 [[.v (.t 0) T4,.obj (.t 1) true 126 2,.v (.c 0 0) T126]] (by kernel_rfl)
def qf3(n:Nat):CL Tryz.prog:=⟨[],[qoX n],0,nof⟩
def qf4(n:Nat):LK Tryz.prog false:=mkL tab (qf3 n) [] Tryz.f150 [true,false,true,false,false] 0 n [.v (.t 0) T155,.v (.t 7) T3,.v (.t 8) T3,.fnc (.t 1) 117 [.box true 126 2],.v (.c 0 0) T126] [(.exit 0,[.fnc (.t 1) 117 [.box true 126 2],.v (.c 0 0) T126]),(.ret,[.v (.t 4) T3,.fnc (.t 1) 117 [.box true 126 2],.v (.c 0 0) T126])] (by kernel_rfl)
def qgg(n:Nat):Cw Tryz.prog:=mkW tab (qf3 n) [qf4 n] Tryz.func150 [.v (.t 0) T155,.fnc (.t 1) 117 [.box true 126 2],.v (.c 0 0) T126] 2 [[.v (.t 0) T3,.obj (.t 1) true 126 2,.v (.c 0 0) T126]] (by kernel_rfl)
def qjI(n:Nat):CL Tryz.prog:=⟨[],[qoX n,qgg n],0,nof⟩
def qfD(n:Nat):Cw Tryz.prog:=mkW tab (qjI n) [] Tryz.func116 [.v (.t 0) T155,.fnc (.t 1) 117 [.box true 126 2],.v (.c 0 0) T126] 2 [[.v (.t 0) T4,.obj (.t 1) true 126 2,.v (.c 0 0) T126]] (by kernel_rfl)
def qyS(n:Nat):CL Tryz.prog:=⟨[qqC n,quE n],[qfD n,qpr n],4,nof⟩
def qqF(n:Nat):Cw Tryz.prog:=mkW tab (qyS n) [] Tryz.func77 [.v (.t 0) T34,.v (.t 1) T35,.v (.t 2) T155] 3 [[.v (.t 1) T24,.obj (.t 0) false 129 5,.v (.c 0 0) T126,.row (.c 0 2) false T91 91,.row (.c 0 3) false T91 91,.mpi (.c 0 4) false T158 T3],[.nilp (.t 0),.v (.t 1) T24]] (by kernel_rfl)
def qv9(n:Nat):CL Tryz.prog:=⟨[],[qqF n,qrO n,qpq n],4,nof⟩
def qn1(n:Nat):Ct Tryz.prog:=mkC tab (qv9 n) [] Tryz.func36 [.d T34,.d T35] [T22,T24] (by kernel_rfl)
def qw3(n:Nat):CL Tryz.prog:=⟨[],[qqF n,qrO n],4,nof⟩
def qsl(n:Nat):Ct Tryz.prog:=mkC tab (qw3 n) [] Tryz.func37 [.d T34,.d T35] [T22,T24] (by kernel_rfl)
end
section
end
end
end Go.Proofs.YtlmicgmhallkkaaGreatDoor
