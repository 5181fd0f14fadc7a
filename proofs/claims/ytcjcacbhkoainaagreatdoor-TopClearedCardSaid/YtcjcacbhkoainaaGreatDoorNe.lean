/- Texts DnA, DnB, DnC, DnD, DnF, DnG, DnH, DnI, DnE, DnJ in one. -/
import Derived.Test.YtcjcacbhkoainaaGreatDoorDnT
import Derived.Test.YtcjcacbhkoainaaGreatDoorNd
import Derived.Test.YtcjcacbhkoainaaGreatDoorKc
/- Printed: what functions of the program compute. -/
set_option linter.constructorNameAsVariable false
set_option linter.unusedSimpArgs false
set_option linter.unusedVariables false
set_option linter.unusedSectionVars false
namespace Go.Proofs.YtcjcacbhkoainaaGreatDoor
open Go Go.Proofs Go.RowKit
set_option maxRecDepth 20000
noncomputable section
section
def qs7(n:Nat):CL Tryz.prog:=⟨[],[],0,nof⟩
def qh7(n:Nat):Ct Tryz.prog:=mkC tab (qs7 n) [] Tryz.func91 [.d T3,.d T3,.d T3] [T4] (by kernel_rfl)
def qnq(n:Nat):CL Tryz.prog:=⟨[qh7 n],[],0,nof⟩
def qnr(n:Nat):LK Tryz.prog false:=mkL tab (qnq n) [] Tryz.f61 [true,false,true,false,false] 0 n [.v (.t 3) T3,.obj (.t 1) false 34 2,.v (.c 0 0) T34] [(.exit 0,[.obj (.t 1) false 34 2,.v (.c 0 0) T34]),(.ret,[.v (.t 2) T4])] (by kernel_rfl)
def qnG(n:Nat):Ct Tryz.prog:=mkC tab (qnq n) [qnr n] Tryz.func61 [.d T34] [T4] (by kernel_rfl)
def qmj(n:Nat):CL Tryz.prog:=⟨[qh7 n],[],0,nof⟩
def qmk(n:Nat):LK Tryz.prog false:=mkL tab (qmj n) [] Tryz.f92 [true,true,true,false,true,false,false] 0 n [.v (.t 5) T3,.v (.t 6) T3,.obj (.t 2) false 34 2,.v (.c 0 0) T34,.obj (.t 3) false 77 5,.v (.c 1 0) T77] [(.exit 0,[]),(.ret,[.v (.t 4) T4])] (by kernel_rfl)
def qmO(n:Nat):Ct Tryz.prog:=mkC tab (qmj n) [qmk n] Tryz.func92 [.d T34,.d T77] [T4] (by kernel_rfl)
def qlc(n:Nat):CL Tryz.prog:=⟨[qh7 n,qmO n],[],0,nof⟩
def qld(n:Nat):LK Tryz.prog false:=mkL tab (qlc n) [] Tryz.f62 [true,false,true,false,false] 0 n [.v (.t 1) T35,.v (.t 5) T3,.obj (.t 2) false 34 2,.v (.c 0 0) T34] [(.exit 0,[.v (.t 1) T35]),(.ret,[.v (.t 4) T4])] (by kernel_rfl)
def qlV(n:Nat):Ct Tryz.prog:=mkC tab (qlc n) [qld n] Tryz.func62 [.d T34,.d T35] [T4] (by kernel_rfl)
def qom(n:Nat):CL Tryz.prog:=⟨[],[],0,nof⟩
def qon(n:Nat):LK Tryz.prog false:=mkL tab (qom n) [] Tryz.f93 [true,true,false,true,false,false] 0 n [.v (.t 5) T3,.obj (.t 2) false 77 5,.v (.c 0 0) T77,.obj (.t 3) false 77 5,.v (.c 1 0) T77] [(.exit 0,[]),(.ret,[.v (.t 4) T4])] (by kernel_rfl)
def qoO(n:Nat):Ct Tryz.prog:=mkC tab (qom n) [qon n] Tryz.func93 [.d T77,.d T77] [T4] (by kernel_rfl)
def qkV(n:Nat):CL Tryz.prog:=⟨[qoO n],[],0,nof⟩
def qoo(n:Nat):LK Tryz.prog false:=mkL tab (qkV n) [] Tryz.f63 [true,false,true,false,false,true,false,false,true,false,false] 1 n [.v (.t 0) T35,.v (.t 3) T3,.v (.t 4) T3] [(.exit 2,[.v (.t 0) T35,.v (.t 3) T3]),(.ret,[.v (.t 2) T4])] (by kernel_rfl)
def qop(n:Nat):LK Tryz.prog false:=mkL tab (qkV n) [qoo n] Tryz.f63 [true,false,true,false,false] 0 n [.v (.t 0) T35,.v (.t 3) T3] [(.exit 0,[]),(.ret,[.v (.t 2) T4])] (by kernel_rfl)
def qoP(n:Nat):Ct Tryz.prog:=mkC tab (qkV n) [qop n] Tryz.func63 [.d T35] [T4] (by kernel_rfl)
def qtE(n:Nat):CL Tryz.prog:=⟨[qnG n,qlV n,qoP n],[],0,nof⟩
def qoQ(n:Nat):Ct Tryz.prog:=mkC tab (qtE n) [] Tryz.func36 [.d T34,.d T35] [T24] (by kernel_rfl)
end
section
def qxD(n:Nat):CL Tryz.prog:=⟨[],[],0,nof⟩
def qoR(n:Nat):Ct Tryz.prog:=mkC tab (qxD n) [] Tryz.func103 [.d T3] [T4] (by kernel_rfl)
def qyw(n:Nat):CL Tryz.prog:=⟨[qoR n],[],0,nof⟩
def qpX(n:Nat):Ct Tryz.prog:=mkC tab (qyw n) [] Tryz.func137 [.d T3,.d T3] [T4] (by kernel_rfl)
def qvP(n:Nat):CL Tryz.prog:=⟨[qoR n],[],0,nof⟩
def qg1(n:Nat):Ct Tryz.prog:=mkC tab (qvP n) [] Tryz.func69 [.d T3,.d T3] [T3] (by kernel_rfl)
def qvQ(n:Nat):CL Tryz.prog:=⟨[],[],0,nof⟩
def qvR(n:Nat):LK Tryz.prog false:=mkL tab (qvQ n) [] Tryz.f65 [true,true,false,true,false,false] 0 n [.v (.t 6) T35,.v (.t 7) T3,.v (.t 8) T3,.row (.t 3) false T3 3] [(.exit 0,[.row (.t 3) false T3 3])] (by kernel_rfl)
def qxc(n:Nat):Cw Tryz.prog:=mkW tab (qvQ n) [qvR n] Tryz.func65 [.v (.t 0) T35] 1 [[.row (.t 0) false T3 3]] (by kernel_rfl)
def qfj(n:Nat):CL Tryz.prog:=⟨[qpX n],[],0,nof⟩
def qh8(n:Nat):LK Tryz.prog false:=mkL tab (qfj n) [] Tryz.f131 [true,false,false,true,false,false,true,false,false] 1 n [.v (.t 1) T3,.v (.t 2) T3,.v (.t 6) T3,.v (.t 7) T3,.row (.t 0) true T3 3] [(.exit 2,[.v (.t 1) T3,.v (.t 2) T3,.v (.t 6) T3,.row (.t 0) true T3 3])] (by kernel_rfl)
def qh9(n:Nat):LK Tryz.prog false:=mkL tab (qfj n) [qh8 n] Tryz.f131 [true,false,false] 0 n [.v (.t 1) T3,.v (.t 2) T3,.v (.t 6) T3,.row (.t 0) true T3 3] [(.exit 0,[.row (.t 0) true T3 3])] (by kernel_rfl)
def qiz(n:Nat):Cw Tryz.prog:=mkW tab (qfj n) [qh9 n] Tryz.func131 [.v (.t 1) T3,.v (.t 2) T3,.row (.t 0) true T3 3] 3 [[.row (.t 0) true T3 3]] (by kernel_rfl)
def qvS(n:Nat):CL Tryz.prog:=⟨[],[],0,nof⟩
def qq4(n:Nat):Ct Tryz.prog:=mkC tab (qvS n) [] Tryz.func141 [.d T133] [T3] (by kernel_rfl)
def qxE(n:Nat):CL Tryz.prog:=⟨[qq4 n],[],0,nof⟩
def qml(n:Nat):Ct Tryz.prog:=mkC tab (qxE n) [] Tryz.func101 [.d T57] [T3] (by kernel_rfl)
def qyx(n:Nat):CL Tryz.prog:=⟨[],[],0,nof⟩
def qhs(n:Nat):Ct Tryz.prog:=mkC tab (qyx n) [] Tryz.func119 [.d T3,.d T3,.d T3] [T4] (by kernel_rfl)
def qwJ(n:Nat):CL Tryz.prog:=⟨[qhs n],[],0,nof⟩
def qn4(n:Nat):Ct Tryz.prog:=mkC tab (qwJ n) [] Tryz.func96 [.d T122,.d T3] [T4] (by kernel_rfl)
def qvb(n:Nat):CL Tryz.prog:=⟨[qhs n],[],0,nof⟩
def qmP(n:Nat):Ct Tryz.prog:=mkC tab (qvb n) [] Tryz.func97 [.d T122,.d T3] [T4] (by kernel_rfl)
def qps(n:Nat):CL Tryz.prog:=⟨[qn4 n,qmP n,qhs n],[],0,nof⟩
def qpt(n:Nat):LK Tryz.prog false:=mkL tab (qps n) [] Tryz.f169 [true,true,false,true,false,false] 0 n [.v (.t 5) T3,.v (.t 8) T75,.v (.t 9) T3,.v (.t 10) T3,.obj (.t 2) false 122 2,.v (.c 0 0) T122] [(.exit 0,[]),(.ret,[.v (.t 4) T4])] (by kernel_rfl)
def qqt(n:Nat):Ct Tryz.prog:=mkC tab (qps n) [qpt n] Tryz.func169 [.d T122,.d T75] [T4] (by kernel_rfl)
def qtF(n:Nat):CL Tryz.prog:=⟨[qhs n,qqt n],[],0,nof⟩
def qoS(n:Nat):Ct Tryz.prog:=mkC tab (qtF n) [] Tryz.func148 [.d T122,.d T77] [T4] (by kernel_rfl)
def quZ(n:Nat):CL Tryz.prog:=⟨[],[],0,nof⟩
def qu0(n:Nat):LK Tryz.prog false:=mkL tab (quZ n) [] Tryz.f130 [true,true,false,true,false,false] 0 n [.v (.t 3) T3,.v (.t 6) T22,.v (.t 7) T3,.v (.t 8) T3] [(.exit 0,[.v (.t 3) T3]),(.ret,[.v (.t 2) T3])] (by kernel_rfl)
def qoT(n:Nat):Ct Tryz.prog:=mkC tab (quZ n) [qu0 n] Tryz.func130 [.d T22] [T3] (by kernel_rfl)
def qu1(n:Nat):CL Tryz.prog:=⟨[],[],0,nof⟩
def qu2(n:Nat):LK Tryz.prog false:=mkL tab (qu1 n) [] Tryz.f149 [true,false,true,false,false] 0 n [.v (.t 0) T35,.v (.t 5) T35,.v (.t 6) T3,.v (.t 7) T3] [(.exit 0,[]),(.ret,[.v (.t 2) T4])] (by kernel_rfl)
def qvT(n:Nat):Ct Tryz.prog:=mkC tab (qu1 n) [qu2 n] Tryz.func149 [.d T35] [T4] (by kernel_rfl)
def qpu(n:Nat):CL Tryz.prog:=⟨[],[],0,nof⟩
def qpv(n:Nat):LK Tryz.prog false:=mkL tab (qpu n) [] Tryz.f55 [true,false,true,false,false] 0 n [.v (.t 1) T35,.v (.t 5) T3,.obj (.t 2) false 34 2,.v (.c 0 0) T34] [(.exit 0,[.v (.t 1) T35,.obj (.t 2) false 34 2,.v (.c 0 0) T34]),(.ret,[.v (.t 4) T4])] (by kernel_rfl)
def qqu(n:Nat):Ct Tryz.prog:=mkC tab (qpu n) [qpv n] Tryz.func55 [.d T34,.d T35] [T4] (by kernel_rfl)
def qsh(n:Nat):CL Tryz.prog:=⟨[],[],0,nof⟩
def qnH(n:Nat):Ct Tryz.prog:=mkC tab (qsh n) [] Tryz.func43 [] [T34,T35] (by kernel_rfl)
end
section
def qyy(n:Nat):CL Tryz.prog:=⟨[qg1 n,qoT n],[],0,nof⟩
def qnh(n:Nat):Ct Tryz.prog:=mkC tab (qyy n) [] Tryz.func129 [.d T77,.d T77] [T3] (by kernel_rfl)
def qvU(n:Nat):CL Tryz.prog:=⟨[],[],0,nof⟩
def qnB(n:Nat):Cw Tryz.prog:=mkW tab (qvU n) [] Tryz.func127 [.v (.t 0) T77,.obj (.t 1) true 77 5,.v (.c 0 0) T77] 2 [[.v (.t 0) T4,.obj (.t 1) true 77 5,.v (.c 0 0) T77]] (by kernel_rfl)
def qfm(n:Nat):CL Tryz.prog:=⟨[],[qnB n],0,nof⟩
def qfn(n:Nat):LK Tryz.prog false:=mkL tab (qfm n) [] Tryz.f33 [true,false,true,false,false] 0 n [.v (.t 0) T35,.v (.t 7) T3,.v (.t 8) T3,.fnc (.t 1) 127 [.box true 77 5],.v (.c 0 0) T77] [(.exit 0,[.fnc (.t 1) 127 [.box true 77 5],.v (.c 0 0) T77]),(.ret,[.v (.t 4) T3,.fnc (.t 1) 127 [.box true 77 5],.v (.c 0 0) T77])] (by kernel_rfl)
def qY(n:Nat):Cw Tryz.prog:=mkW tab (qfm n) [qfn n] Tryz.func33 [.v (.t 0) T35,.fnc (.t 1) 127 [.box true 77 5],.v (.c 0 0) T77] 2 [[.v (.t 0) T3,.obj (.t 1) true 77 5,.v (.c 0 0) T77]] (by kernel_rfl)
def qi1(n:Nat):CL Tryz.prog:=⟨[],[qY n,qnB n],0,nof⟩
def qcP(n:Nat):Cw Tryz.prog:=mkW tab (qi1 n) [] Tryz.func126 [.v (.t 0) T35,.fnc (.t 1) 127 [.box true 77 5],.v (.c 0 0) T77] 2 [[.v (.t 0) T4,.obj (.t 1) true 77 5,.v (.c 0 0) T77]] (by kernel_rfl)
def qxF(n:Nat):CL Tryz.prog:=⟨[],[qcP n],0,nof⟩
def qoU(n:Nat):Cw Tryz.prog:=mkW tab (qxF n) [] Tryz.func125 [.v (.t 0) T77,.obj (.t 1) true 35 1,.v (.c 0 0) T35] 2 [[.v (.t 0) T4,.obj (.t 1) true 35 1,.v (.c 0 0) T35]] (by kernel_rfl)
def qb0(n:Nat):CL Tryz.prog:=⟨[qnh n],[],0,nof⟩
def qdT(n:Nat):LK Tryz.prog false:=mkL tab (qb0 n) [] Tryz.f173 [true,false,false,true,false,false,true,false,false] 1 n [.v (.t 1) T3,.v (.t 2) T3,.fn (.t 3) 129 [] [],.v (.t 8) T3,.v (.t 9) T3,.row (.t 0) true T77 77] [(.exit 2,[.v (.t 1) T3,.v (.t 2) T3,.fn (.t 3) 129 [] [],.v (.t 8) T3,.row (.t 0) true T77 77])] (by kernel_rfl)
def qdU(n:Nat):LK Tryz.prog false:=mkL tab (qb0 n) [qdT n] Tryz.f173 [true,false,false] 0 n [.v (.t 1) T3,.v (.t 2) T3,.fn (.t 3) 129 [] [],.v (.t 8) T3,.row (.t 0) true T77 77] [(.exit 0,[.row (.t 0) true T77 77])] (by kernel_rfl)
def qb7(n:Nat):Cw Tryz.prog:=mkW tab (qb0 n) [qdU n] Tryz.func173 [.v (.t 1) T3,.v (.t 2) T3,.fn (.t 3) 129 [] [],.row (.t 0) true T77 77] 4 [[.row (.t 0) true T77 77]] (by kernel_rfl)
def qwK(n:Nat):CL Tryz.prog:=⟨[qg1 n,qoT n],[],0,nof⟩
def qrT(n:Nat):Ct Tryz.prog:=mkC tab (qwK n) [] Tryz.func172 [.d T84,.d T84] [T3] (by kernel_rfl)
def qfV(n:Nat):CL Tryz.prog:=⟨[qrT n],[],0,nof⟩
def qfW(n:Nat):LK Tryz.prog false:=mkL tab (qfV n) [] Tryz.f171 [true,false,true,false,false] 0 n [.v (.t 0) T75,.v (.t 1) T75,.fn (.t 2) 172 [] [],.v (.t 11) T75,.v (.t 12) T3,.v (.t 13) T3] [(.exit 0,[.v (.t 0) T75,.v (.t 1) T75]),(.ret,[.v (.t 6) T3])] (by kernel_rfl)
def qgb(n:Nat):Ct Tryz.prog:=mkC tab (qfV n) [qfW n] Tryz.func171 [.d T75,.d T75,.fn 172 [] []] [T3] (by kernel_rfl)
def qyz(n:Nat):CL Tryz.prog:=⟨[qg1 n,qoT n,qgb n],[],0,nof⟩
def qkW(n:Nat):Ct Tryz.prog:=mkC tab (qyz n) [] Tryz.func157 [.d T77,.d T77] [T3] (by kernel_rfl)
def qb1(n:Nat):CL Tryz.prog:=⟨[qkW n],[],0,nof⟩
def qdV(n:Nat):LK Tryz.prog false:=mkL tab (qb1 n) [] Tryz.f173 [true,false,false,true,false,false,true,false,false] 1 n [.v (.t 1) T3,.v (.t 2) T3,.fn (.t 3) 157 [] [],.v (.t 8) T3,.v (.t 9) T3,.row (.t 0) true T77 77] [(.exit 2,[.v (.t 1) T3,.v (.t 2) T3,.fn (.t 3) 157 [] [],.v (.t 8) T3,.row (.t 0) true T77 77])] (by kernel_rfl)
def qdW(n:Nat):LK Tryz.prog false:=mkL tab (qb1 n) [qdV n] Tryz.f173 [true,false,false] 0 n [.v (.t 1) T3,.v (.t 2) T3,.fn (.t 3) 157 [] [],.v (.t 8) T3,.row (.t 0) true T77 77] [(.exit 0,[.row (.t 0) true T77 77])] (by kernel_rfl)
def qb8(n:Nat):Cw Tryz.prog:=mkW tab (qb1 n) [qdW n] Tryz.func173 [.v (.t 1) T3,.v (.t 2) T3,.fn (.t 3) 157 [] [],.row (.t 0) true T77 77] 4 [[.row (.t 0) true T77 77]] (by kernel_rfl)
def qvV(n:Nat):CL Tryz.prog:=⟨[qhs n],[],0,nof⟩
def qnC(n:Nat):Ct Tryz.prog:=mkC tab (qvV n) [] Tryz.func146 [.d T129] [T4] (by kernel_rfl)
def qgm(n:Nat):CL Tryz.prog:=⟨[qnC n],[],0,nof⟩
def qgn(n:Nat):LK Tryz.prog false:=mkL tab (qgm n) [] Tryz.f168 [true,false,true,false,false] 0 n [.v (.t 0) T32,.fn (.t 1) 146 [] [],.v (.t 7) T3,.v (.t 8) T3] [(.exit 0,[]),(.ret,[.v (.t 4) T3])] (by kernel_rfl)
def qgz(n:Nat):Ct Tryz.prog:=mkC tab (qgm n) [qgn n] Tryz.func168 [.d T32,.fn 146 [] []] [T3] (by kernel_rfl)
def qj6(n:Nat):CL Tryz.prog:=⟨[qnC n,qgz n],[],0,nof⟩
def qfX(n:Nat):Ct Tryz.prog:=mkC tab (qj6 n) [] Tryz.func145 [.d T32,.fn 146 [] []] [T4] (by kernel_rfl)
def qxG(n:Nat):CL Tryz.prog:=⟨[qhs n,qfX n],[],0,nof⟩
def qsM(n:Nat):Ct Tryz.prog:=mkC tab (qxG n) [] Tryz.func106 [.d T122] [T4] (by kernel_rfl)
def qvW(n:Nat):CL Tryz.prog:=⟨[qkW n],[],0,nof⟩
def qq5(n:Nat):Ct Tryz.prog:=mkC tab (qvW n) [] Tryz.func159 [.d T77,.d T77] [T4] (by kernel_rfl)
end
section
def qgO(n:Nat):CL Tryz.prog:=⟨[],[],0,fun _=>false⟩
def qj7(n:Nat):Nat→St→PT (DEx×St):=fun _ _=>.fail
theorem qpi(n:Nat):qbr (qgO n).c (qA Tryz.f170) 0=[]:=by kernel_rfl
theorem qpj:Tryz.f170.body=some (qA Tryz.f170):=by kernel_rfl
abbrev qgP:List It:=[.raw (.t 0),.v (.t 1) T3]
abbrev qgw:List (List It):=[[.row (.t 0) false T77 77]]
def qk(n:Nat)(x:qh qgP):Option (qbL qgw):=runW tab (qgO n) (qj7 n) (qA Tryz.f170) qgP 2 27 [.tmp 4] qgw x
def qpk(n:Nat):Cw Tryz.prog:=⟨170,2,qgP,1,qgw,qk n,fun _ _ h=>qnF (B:=tab) (cs:=qgO n) (lo:=qj7 n) (rs:=[.tmp 4]) Tryz.func170 (by kernel_rfl) qpj (by kernel_rfl) (by decide) (qlw (qpi n) all_nil) h⟩
def qht(n:Nat):CL Tryz.prog:=⟨[],[qpk n],1,nof⟩
def qkX(n:Nat):LK Tryz.prog false:=mkL tab (qht n) [] Tryz.f156 [true,true,false,true,false,false] 0 n [.v (.t 0) T190,.v (.t 3) T3,.v (.t 9) T190,.v (.t 10) T3,.v (.t 11) T3] [(.exit 0,[.v (.t 0) T190,.v (.t 3) T3])] (by kernel_rfl)
def qkY(n:Nat):LK Tryz.prog false:=mkL tab (qht n) [] Tryz.f156 [true,true,true,true,false,true,false,false] 1 n [.v (.t 25) T190,.v (.t 26) T3,.v (.t 27) T3,.row (.t 6) false T77 77] [(.exit 2,[.row (.t 6) false T77 77])] (by kernel_rfl)
def qle(n:Nat):Cw Tryz.prog:=mkW tab (qht n) [qkX n,qkY n] Tryz.func156 [.v (.t 0) T190] 1 [[.row (.t 0) false T77 77]] (by kernel_rfl)
abbrev qr:List It:=[.v (.t 1) T3,.v (.t 2) T3,.v (.t 3) T3,.fn (.t 4) 157 [] [],.row (.t 0) true T77 77]
abbrev qo:List (List It):=[[.row (.t 0) true T77 77]]
abbrev qd:Type:={g:qh qr→Option (qbL qo) // qsJ Tryz.prog 160 5 qr 0 qo g}
def qJ(n:Nat)(g:qd):CL Tryz.prog:=⟨[qkW n],[qb7 n,qb8 n,⟨160,5,qr,0,qo,g.1,g.2⟩],0,fun _=>false⟩
def qeB(n:Nat)(g:qd):Nat→St→PT (DEx×St):=fun _ _=>.fail
abbrev q9:List It:=[.v (.t 1) T3,.v (.t 2) T3,.v (.t 3) T3,.fn (.t 4) 157 [] [],.v (.t 10) T4,.v (.t 11) T4,.row (.t 0) true T77 77]
abbrev qby:List (DEx×List It):=[(.ret,[.row (.t 0) true T77 77])]
def qeK(n:Nat)(g:qd)(rec:qh q9→Option (qbM qby))(s:qh q9):Option (qbM qby):=(qgN tab (qJ n g) (qeB n g) (subC [true,true,false,false] (qA Tryz.f160)) 1 (mkS q9 148 s)).run (Lp.leaf 148 q9 qby rec)
def qcF(n:Nat)(g:qd):Lp:=⟨148,q9,qby,qb n (qeK n g)⟩
theorem qi2(n:Nat)(g:qd):qbr (qJ n g).c (subC [true,true,false,false] (qA Tryz.f160)) 1=[]:=by kernel_rfl
theorem qim(n:Nat)(g:qd)(st:St)(r:DEx×St)(h:((qcF n g).go st).Is r):DA Tryz.prog false (.loop (subC [true,true,false,false] (qA Tryz.f160))) st r:=Lp.ok (L:=qcF n g) (B:=tab) (cs:=qJ n g) (lo:=qeB n g) (id:=0) rfl (qlw (qi2 n g) all_nil) (fun _ _=>rfl) h
def qeL(n:Nat)(g:qd):Nat→St→PT (DEx×St):=fun k st=>match k with
 | 0=>(qcF n g).go st
 | _=>.fail
theorem qjc(n:Nat)(g:qd):qbr (qJ n g).c (qA Tryz.f160) 0=[(0,.loop (subC [true,true,false,false] (qA Tryz.f160)))]:=by kernel_rfl
theorem qjd:Tryz.f160.body=some (qA Tryz.f160):=by kernel_rfl
def qcG(n:Nat)(g:qd)(x:qh qr):Option (qbL qo):=runW tab (qJ n g) (qeL n g) (qA Tryz.f160) qr 5 148 [] qo x
theorem qi3(n:Nat)(g:qd):qsJ Tryz.prog 160 5 qr 0 qo (qcG n g):=fun _ _ h=>qnF (B:=tab) (cs:=qJ n g) (lo:=qeL n g) (rs:=[]) Tryz.func160 (by kernel_rfl) qjd (by kernel_rfl) (by decide) (qlw (qjc n g) (all_cons (fun st r h=>qim n g st r h) all_nil)) h
def qF(n:Nat):Nat→qd
 | 0=>⟨fun _=>none,fun _ _ h=>by cases h⟩
 | k+1=>⟨qcG n (qF n k),qi3 n (qF n k)⟩
def qe0(n:Nat)(x:qh qr):Option (qbL qo):=(qF n n).1 x
def qe1(n:Nat):Cw Tryz.prog:=⟨160,5,qr,0,qo,qe0 n,(qF n n).2⟩
def qkH(n:Nat):CL Tryz.prog:=⟨[qml n,qkW n],[qe1 n],0,nof⟩
def qdE(n:Nat):Cw Tryz.prog:=mkW tab (qkH n) [] Tryz.func128 [.fn (.t 1) 157 [] [],.row (.t 0) true T77 77] 2 [[.row (.t 0) true T77 77]] (by kernel_rfl)
abbrev qt:List It:=[.v (.t 1) T3,.v (.t 2) T3,.v (.t 3) T3,.fn (.t 4) 129 [] [],.row (.t 0) true T77 77]
abbrev qp:List (List It):=[[.row (.t 0) true T77 77]]
abbrev qe:Type:={g:qh qt→Option (qbL qp) // qsJ Tryz.prog 160 5 qt 0 qp g}
def qK(n:Nat)(g:qe):CL Tryz.prog:=⟨[qnh n],[qb7 n,qb8 n,⟨160,5,qt,0,qp,g.1,g.2⟩],0,fun _=>false⟩
def qeC(n:Nat)(g:qe):Nat→St→PT (DEx×St):=fun _ _=>.fail
abbrev qba:List It:=[.v (.t 1) T3,.v (.t 2) T3,.v (.t 3) T3,.fn (.t 4) 129 [] [],.v (.t 10) T4,.v (.t 11) T4,.row (.t 0) true T77 77]
abbrev qbz:List (DEx×List It):=[(.ret,[.row (.t 0) true T77 77])]
def qeM(n:Nat)(g:qe)(rec:qh qba→Option (qbM qbz))(s:qh qba):Option (qbM qbz):=(qgN tab (qK n g) (qeC n g) (subC [true,true,false,false] (qA Tryz.f160)) 1 (mkS qba 148 s)).run (Lp.leaf 148 qba qbz rec)
def qcH(n:Nat)(g:qe):Lp:=⟨148,qba,qbz,qb n (qeM n g)⟩
theorem qi4(n:Nat)(g:qe):qbr (qK n g).c (subC [true,true,false,false] (qA Tryz.f160)) 1=[]:=by kernel_rfl
theorem qin(n:Nat)(g:qe)(st:St)(r:DEx×St)(h:((qcH n g).go st).Is r):DA Tryz.prog false (.loop (subC [true,true,false,false] (qA Tryz.f160))) st r:=Lp.ok (L:=qcH n g) (B:=tab) (cs:=qK n g) (lo:=qeC n g) (id:=0) rfl (qlw (qi4 n g) all_nil) (fun _ _=>rfl) h
def qeN(n:Nat)(g:qe):Nat→St→PT (DEx×St):=fun k st=>match k with
 | 0=>(qcH n g).go st
 | _=>.fail
theorem qje(n:Nat)(g:qe):qbr (qK n g).c (qA Tryz.f160) 0=[(0,.loop (subC [true,true,false,false] (qA Tryz.f160)))]:=by kernel_rfl
theorem qjf:Tryz.f160.body=some (qA Tryz.f160):=by kernel_rfl
def qcI(n:Nat)(g:qe)(x:qh qt):Option (qbL qp):=runW tab (qK n g) (qeN n g) (qA Tryz.f160) qt 5 148 [] qp x
theorem qi5(n:Nat)(g:qe):qsJ Tryz.prog 160 5 qt 0 qp (qcI n g):=fun _ _ h=>qnF (B:=tab) (cs:=qK n g) (lo:=qeN n g) (rs:=[]) Tryz.func160 (by kernel_rfl) qjf (by kernel_rfl) (by decide) (qlw (qje n g) (all_cons (fun st r h=>qin n g st r h) all_nil)) h
def qG(n:Nat):Nat→qe
 | 0=>⟨fun _=>none,fun _ _ h=>by cases h⟩
 | k+1=>⟨qcI n (qG n k),qi5 n (qG n k)⟩
def qe2(n:Nat)(x:qh qt):Option (qbL qp):=(qG n n).1 x
def qjg(n:Nat):Cw Tryz.prog:=⟨160,5,qt,0,qp,qe2 n,(qG n n).2⟩
def qkI(n:Nat):CL Tryz.prog:=⟨[qml n,qnh n],[qe1 n,qjg n],0,nof⟩
def qdF(n:Nat):Cw Tryz.prog:=mkW tab (qkI n) [] Tryz.func128 [.fn (.t 1) 129 [] [],.row (.t 0) true T77 77] 2 [[.row (.t 0) true T77 77]] (by kernel_rfl)
def qcJ(n:Nat):CL Tryz.prog:=⟨[qq5 n],[],0,nof⟩
def qeO(n:Nat):LK Tryz.prog false:=mkL tab (qcJ n) [] Tryz.f158 [true,true,false,true,false,false,true,false,false,true,false,true,false,true,false,false] 1 n [.fn (.t 1) 159 [] [],.v (.t 5) T3,.v (.t 7) T3,.row (.t 0) true T77 77,.sub (.t 6) 0] [(.exit 2,[.v (.t 5) T3,.row (.t 0) true T77 77])] (by kernel_rfl)
def qeP(n:Nat):LK Tryz.prog false:=mkL tab (qcJ n) [qeO n] Tryz.f158 [true,true,false,true,false,false] 0 n [.fn (.t 1) 159 [] [],.v (.t 5) T3,.row (.t 0) true T77 77] [(.exit 0,[.row (.t 0) true T77 77]),(.ret,[.row (.t 0) true T77 77,.sub (.t 4) 0])] (by kernel_rfl)
def qe3(n:Nat):Cw Tryz.prog:=mkW tab (qcJ n) [qeP n] Tryz.func158 [.fn (.t 1) 159 [] [],.row (.t 0) true T77 77] 2 [[.row (.t 1) true T77 77,.sub (.t 0) 0]] (by kernel_rfl)
def qe4(n:Nat):CL Tryz.prog:=⟨[],[qoU n],0,nof⟩
def qe5(n:Nat):LK Tryz.prog false:=mkL tab (qe4 n) [] Tryz.f33 [true,false,true,false,false] 0 n [.v (.t 7) T3,.v (.t 8) T3,.row (.t 0) true T77 77,.fnc (.t 1) 125 [.box true 35 1],.v (.c 1 0) T35] [(.exit 0,[.row (.t 0) true T77 77,.fnc (.t 1) 125 [.box true 35 1],.v (.c 1 0) T35]),(.ret,[.v (.t 4) T3,.row (.t 0) true T77 77,.fnc (.t 1) 125 [.box true 35 1],.v (.c 1 0) T35])] (by kernel_rfl)
def qbc(n:Nat):Cw Tryz.prog:=mkW tab (qe4 n) [qe5 n] Tryz.func33 [.row (.t 0) true T77 77,.fnc (.t 1) 125 [.box true 35 1],.v (.c 1 0) T35] 2 [[.v (.t 0) T3,.row (.t 1) true T77 77,.obj (.t 2) true 35 1,.v (.c 1 0) T35]] (by kernel_rfl)
def qfJ(n:Nat):CL Tryz.prog:=⟨[],[qbc n,qY n,qoU n],0,nof⟩
def qfK(n:Nat):LK Tryz.prog false:=mkL tab (qfJ n) [] Tryz.f123 [true,true,true,false,true,false,false] 0 n [.v (.t 5) T3,.v (.t 6) T3,.row (.t 0) true T77 77,.fnc (.t 1) 125 [.box true 35 1],.v (.c 1 0) T35] [(.exit 0,[.v (.t 5) T3,.row (.t 0) true T77 77,.fnc (.t 1) 125 [.box true 35 1],.v (.c 1 0) T35])] (by kernel_rfl)
def qfY(n:Nat):Cw Tryz.prog:=mkW tab (qfJ n) [qfK n] Tryz.func123 [.row (.t 0) true T77 77,.fnc (.t 1) 125 [.box true 35 1],.v (.c 1 0) T35] 2 [[.row (.t 1) true T77 77,.obj (.t 2) true 35 1,.v (.c 1 0) T35,.sub (.t 0) 0]] (by kernel_rfl)
abbrev qbn:List It:=[.v (.t 1) T3,.v (.t 2) T3,.v (.t 3) T3,.row (.t 0) true T3 3]
abbrev qbj:List (List It):=[[.row (.t 0) true T3 3]]
abbrev qy:Type:={g:qh qbn→Option (qbL qbj) // qsJ Tryz.prog 100 4 qbn 0 qbj g}
def qcy(n:Nat)(g:qy):CL Tryz.prog:=⟨[qpX n],[qiz n,⟨100,4,qbn,0,qbj,g.1,g.2⟩],0,fun _=>false⟩
def qj8(n:Nat)(g:qy):Nat→St→PT (DEx×St):=fun _ _=>.fail
abbrev qdk:List It:=[.v (.t 1) T3,.v (.t 2) T3,.v (.t 3) T3,.v (.t 8) T4,.v (.t 9) T4,.row (.t 0) true T3 3]
abbrev qeY:List (DEx×List It):=[(.ret,[.row (.t 0) true T3 3])]
def qkv(n:Nat)(g:qy)(rec:qh qdk→Option (qbM qeY))(s:qh qdk):Option (qbM qeY):=(qgN tab (qcy n g) (qj8 n g) (subC [true,true,false,false] (qA Tryz.f100)) 1 (mkS qdk 134 s)).run (Lp.leaf 134 qdk qeY rec)
def qg7(n:Nat)(g:qy):Lp:=⟨134,qdk,qeY,qb n (qkv n g)⟩
theorem qpl(n:Nat)(g:qy):qbr (qcy n g).c (subC [true,true,false,false] (qA Tryz.f100)) 1=[]:=by kernel_rfl
theorem qn5(n:Nat)(g:qy)(st:St)(r:DEx×St)(h:((qg7 n g).go st).Is r):DA Tryz.prog false (.loop (subC [true,true,false,false] (qA Tryz.f100))) st r:=Lp.ok (L:=qg7 n g) (B:=tab) (cs:=qcy n g) (lo:=qj8 n g) (id:=0) rfl (qlw (qpl n g) all_nil) (fun _ _=>rfl) h
def qkw(n:Nat)(g:qy):Nat→St→PT (DEx×St):=fun k st=>match k with
 | 0=>(qg7 n g).go st
 | _=>.fail
theorem qpY(n:Nat)(g:qy):qbr (qcy n g).c (qA Tryz.f100) 0=[(0,.loop (subC [true,true,false,false] (qA Tryz.f100)))]:=by kernel_rfl
theorem qpZ:Tryz.f100.body=some (qA Tryz.f100):=by kernel_rfl
def qg8(n:Nat)(g:qy)(x:qh qbn):Option (qbL qbj):=runW tab (qcy n g) (qkw n g) (qA Tryz.f100) qbn 4 134 [] qbj x
theorem qpm(n:Nat)(g:qy):qsJ Tryz.prog 100 4 qbn 0 qbj (qg8 n g):=fun _ _ h=>qnF (B:=tab) (cs:=qcy n g) (lo:=qkw n g) (rs:=[]) Tryz.func100 (by kernel_rfl) qpZ (by kernel_rfl) (by decide) (qlw (qpY n g) (all_cons (fun st r h=>qn5 n g st r h) all_nil)) h
def qbY(n:Nat):Nat→qy
 | 0=>⟨fun _=>none,fun _ _ h=>by cases h⟩
 | k+1=>⟨qg8 n (qbY n k),qpm n (qbY n k)⟩
def qkZ(n:Nat)(x:qh qbn):Option (qbL qbj):=(qbY n n).1 x
def qp0(n:Nat):Cw Tryz.prog:=⟨100,4,qbn,0,qbj,qkZ n,(qbY n n).2⟩
def qvc(n:Nat):CL Tryz.prog:=⟨[qml n],[qp0 n],0,nof⟩
def qqv(n:Nat):Cw Tryz.prog:=mkW tab (qvc n) [] Tryz.func66 [.row (.t 0) true T3 3] 1 [[.row (.t 0) true T3 3]] (by kernel_rfl)
def qwL(n:Nat):CL Tryz.prog:=⟨[],[qdE n,qdF n,qle n,qe3 n],1,nof⟩
def qn6(n:Nat):Cw Tryz.prog:=mkW tab (qwL n) [] Tryz.func122 [.v (.t 0) T190] 1 [[.row (.t 0) false T77 77]] (by kernel_rfl)
def qrp(n:Nat):CL Tryz.prog:=⟨[qoS n],[],0,nof⟩
def qjh(n:Nat):Cw Tryz.prog:=mkW tab (qrp n) [] Tryz.func147 [.v (.t 0) T77,.obj (.t 1) true 122 2,.v (.c 0 0) T122] 2 [[.v (.t 0) T4,.obj (.t 1) true 122 2,.v (.c 0 0) T122]] (by kernel_rfl)
def qec(n:Nat):CL Tryz.prog:=⟨[],[qjh n],0,nof⟩
def qed(n:Nat):LK Tryz.prog false:=mkL tab (qec n) [] Tryz.f33 [true,false,true,false,false] 0 n [.v (.t 0) T35,.v (.t 7) T3,.v (.t 8) T3,.fnc (.t 1) 147 [.box true 122 2],.v (.c 0 0) T122] [(.exit 0,[.fnc (.t 1) 147 [.box true 122 2],.v (.c 0 0) T122]),(.ret,[.v (.t 4) T3,.fnc (.t 1) 147 [.box true 122 2],.v (.c 0 0) T122])] (by kernel_rfl)
def qbo(n:Nat):Cw Tryz.prog:=mkW tab (qec n) [qed n] Tryz.func33 [.v (.t 0) T35,.fnc (.t 1) 147 [.box true 122 2],.v (.c 0 0) T122] 2 [[.v (.t 0) T3,.obj (.t 1) true 122 2,.v (.c 0 0) T122]] (by kernel_rfl)
def qhu(n:Nat):CL Tryz.prog:=⟨[],[qbc n,qY n,qbo n,qjh n],0,nof⟩
def qdX(n:Nat):Cw Tryz.prog:=mkW tab (qhu n) [] Tryz.func126 [.v (.t 0) T35,.fnc (.t 1) 147 [.box true 122 2],.v (.c 0 0) T122] 2 [[.v (.t 0) T4,.obj (.t 1) true 122 2,.v (.c 0 0) T122]] (by kernel_rfl)
def qs8(n:Nat):CL Tryz.prog:=⟨[qvT n],[qn6 n,qcP n,qdX n],1,nof⟩
def qoq(n:Nat):Ct Tryz.prog:=mkC tab (qs8 n) [] Tryz.func107 [.d T122,.d T35] [T24] (by kernel_rfl)
def qAv(n:Nat):CL Tryz.prog:=⟨[qsM n,qoq n],[],0,nof⟩
def qrU(n:Nat):Ct Tryz.prog:=mkC tab (qAv n) [] Tryz.func74 [.d T34,.d T35] [T24] (by kernel_rfl)
end
section
def qgx(n:Nat):CL Tryz.prog:=⟨[],[],0,fun _=>false⟩
def qjL(n:Nat):Nat→St→PT (DEx×St):=fun _ _=>.fail
theorem qoV(n:Nat):qbr (qgx n).c (qA Tryz.f124) 0=[]:=by kernel_rfl
theorem qoW:Tryz.f124.body=some (qA Tryz.f124):=by kernel_rfl
abbrev qgy:List It:=[.raw (.t 0)]
abbrev qgg:List (List It):=[[.row (.t 0) false T77 77]]
def qeD(n:Nat)(x:qh qgy):Option (qbL qgg):=runW tab (qgx n) (qjL n) (qA Tryz.f124) qgy 1 8 [.tmp 2] qgg x
def qoX(n:Nat):Cw Tryz.prog:=⟨124,1,qgy,1,qgg,qeD n,fun _ _ h=>qnF (B:=tab) (cs:=qgx n) (lo:=qjL n) (rs:=[.tmp 2]) Tryz.func124 (by kernel_rfl) qoW (by kernel_rfl) (by decide) (qlw (qoV n) all_nil) h⟩
def qhQ(n:Nat):CL Tryz.prog:=⟨[],[],0,fun _=>false⟩
def qlf(n:Nat):Nat→St→PT (DEx×St):=fun _ _=>.fail
theorem qqP(n:Nat):qbr (qhQ n).c (qA Tryz.f124) 0=[]:=by kernel_rfl
theorem qqQ:Tryz.f124.body=some (qA Tryz.f124):=by kernel_rfl
abbrev qhR:List It:=[.v (.t 0) T35]
abbrev qfk:List (List It):=[[.row (.t 0) false T77 77]]
def qf5(n:Nat)(x:qh qhR):Option (qbL qfk):=runW tab (qhQ n) (qlf n) (qA Tryz.f124) qhR 1 8 [.tmp 2] qfk x
def qqR(n:Nat):Cw Tryz.prog:=⟨124,1,qhR,1,qfk,qf5 n,fun _ _ h=>qnF (B:=tab) (cs:=qhQ n) (lo:=qlf n) (rs:=[.tmp 2]) Tryz.func124 (by kernel_rfl) qqQ (by kernel_rfl) (by decide) (qlw (qqP n) all_nil) h⟩
end
theorem qqS(n:Nat)(c:Nat):qeD n (.slice none 0 c,())=some ([],()):=by kernel_rfl
theorem qqT(n:Nat)(a:Addr)(c:Nat):qeD n (.slice (some a) 0 c,())=some ([],()):=by kernel_rfl
def qlW(n:Nat):Cw Tryz.prog:=qC1 124 T77 qfk (qeD n) (qf5 n) ([],()) (fun v y m0 h=>(qoX n).okk (x:=(v,())) (y:=y) h m0 (quF m0)) (fun l y m0 h=>(qqR n).okk (x:=(l,())) (y:=y) h m0 (quF m0)) (fun A c=>by cases A with | none=>exact qqS n c | some a=>exact qqT n a c)
def qqU(n:Nat):=(qlW n).M
set_option maxHeartbeats 4000000
def ql5(hut:Int)(lo:Int):Nat→List (Int×Int)
 | 0=>[]
 | n+1=>(hut,lo)::ql5 hut (lo+1) n
def qtG(s:Int×(Int×Int)):List (Int×Int):=ql5 s.1 s.2.1 (s.2.2+1-s.2.1).toNat
def qc4:List (Int×(Int×Int))→List (Int×Int)
 | []=>[]
 | s::l=>qtG s++qc4 l
def qvX(l:List (Int×(Int×Int))):Bool:=Nat.ble l.length 1000000&&l.all fun s=>decide (-9223372036854775808≤s.2.1)&&decide (s.2.2<9223372036854775807)
def qyA(y:Int×Int):qU [T150]:=(y,())
theorem qAd(l:List (Int×Int)):((l.map qyA).map (tysA [T150])).length=l.length:=by rw[List.length_map,List.length_map]
def qrV(l:List (Int×(Int×Int))):Option (List (qU [T150])):=cond (qvX l) (some ((qc4 l).map qyA)) none
def qj9(l:List (Int×(Int×Int)))(k:Nat):Nat:=(qc4 (l.take k)).length
theorem qs9(h:Int):∀(n:Nat) (lo:Int),(ql5 h lo n).length=n
 | 0,_=>rfl
 | n+1,lo=>by simp[ql5,qs9 h n]
theorem qyB(h:Int):∀(n:Nat) (lo:Int) (j:Nat),j<n→(ql5 h lo n)[j]?=some (h,lo+j)
 | n+1,lo,0,_=>by simp[ql5]
 | n+1,lo,j+1,hj=>by
  simp only[ql5,List.getElem?_cons_succ]
  rw[qyB h n (lo+1) j (by omega)]
  congr 2
  omega
theorem quG:∀(l m:List (Int×(Int×Int))),qc4 (l++m)=qc4 l++qc4 m
 | [],_=>rfl
 | s::l,m=>by simp[qc4,quG l m]
theorem qDX(l:List (Int×(Int×Int)))(k:Nat)(hk:k<l.length):qj9 l (k+1)=qj9 l k+(l[k].2.2+1-l[k].2.1).toNat:=by
 unfold qj9
 rw[List.take_succ_eq_append_getElem hk,quG]
 simp[qc4,qtG,qs9]
theorem qFf(l:List (Int×(Int×Int))):qj9 l l.length=(qc4 l).length:=by unfold qj9;simp
theorem qG7(l:List (Int×(Int×Int)))(k:Nat)(hk:k<l.length)(j:Nat)(hj:j<(l[k].2.2+1-l[k].2.1).toNat):(qc4 l)[qj9 l k+j]?=some (l[k].1,l[k].2.1+j):=by
 have h1:l=l.take k++l[k]::l.drop (k+1):=by simp
 have h2:qc4 l=qc4 (l.take k)++(qtG l[k]++qc4 (l.drop (k+1))):=by
  conv=>lhs;rw[h1]
  rw[quG];rfl
 rw[h2,List.getElem?_append_right (by unfold qj9;omega),show qj9 l k+j-(qc4 (l.take k)).length=j by unfold qj9;omega,List.getElem?_append_left (by unfold qtG;rw[qs9];exact hj)]
 exact qyB _ _ _ _ hj
theorem qH4{a b:Int}(h:a=b):[AV.int a]=[AV.int b]:=by rw[h]
theorem qG8(x:qU [T77])(l:List (qU [T150]))(h:qrV x.1.2.2.2.2=some l):qx4 Tryz.prog false 155 [] (qiy [T77] x) (l.map (tysA [T150])):=by
 obtain ⟨⟨ma,mb,mc,md,ss⟩,u⟩:=x
 change List (Int×(Int×Int)) at ss
 unfold qrV at h
 cases hb:qvX ss with
 | false=>simp only at h;rw[hb] at h;cases h
 | true =>
 simp only at h;rw[hb] at h
 injection h with h
 subst h
 unfold qvX at hb
 simp only[Bool.and_eq_true,Nat.ble_eq,List.all_eq_true,decide_eq_true_eq] at hb
 obtain ⟨hlen,hbd⟩:=hb
 refine ⟨enters_of Tryz.func155 (by kernel_rfl) rfl,fun lp T J Jx X hcJ hcx hone hy=>?_⟩
 have hyk:∀k (hk:k<ss.length) (j:Nat),j<(ss[k].2.2+1-ss[k].2.1).toNat→qx3 Tryz.prog T lp [.agg [.int ss[k].1,.int (ss[k].2.1+j)]] (J (qj9 ss k+j)) (J (qj9 ss k+j+1)) Jx:=fun k hk j hj=>by
  have h1:=qG7 ss k hk j hj
  have h2:=(List.getElem?_eq_some_iff.1 h1).1
  have h3:=hy (qj9 ss k+j) (by rw[qAd];exact h2)
  rw[List.getElem_map,List.getElem_map,(List.getElem?_eq_some_iff.1 h1).2] at h3
  exact h3
 have hY:=Lib.hid hyk
 have hN:=Lib.hid (qDX ss)
 have hN0:qj9 ss 0=0:=rfl
 have hNl:qj9 ss ss.length=(((qc4 ss).map qyA).map (tysA [T150])).length:=by rw[qFf,qAd]
 show MCT Tryz.prog T 155 [.val (.func (.yield lp) #[] #[]),.rp [.val (.int .i64 ma),.val (.int .i64 mb),.val (.int .i64 mc),.val (.int .i64 md),.sl 3 (ss.map fun s=>[.val (.int .i64 s.1),.val (.int .i64 s.2.1),.val (.int .i64 s.2.2)])]] [.nodef,.ghost X (J 0)] fun _ H'=>∃X',HE.ghost X' (J (((qc4 ss).map qyA).map (tysA [T150])).length)∈H'∨HE.ghost X' Jx∈H'
 rw[← hNl,← hN0]
 clear hy hyk hNl
 generalize hrr:(ss.map fun s=>[AV.val (.int .i64 s.1),AV.val (.int .i64 s.2.1),AV.val (.int .i64 s.2.2)])=rr
 have hrl:rr.length=ss.length:=by rw[← hrr];simp
 have hra:∀k (hk:k<ss.length),rr[k]?=some [.int ss[k].1,.int ss[k].2.1,.int ss[k].2.2]:=fun k hk=>by rw[← hrr,List.getElem?_map,List.getElem?_eq_getElem hk];rfl
 (refine MCT.of Tryz.func155 (by kernel_rfl) rfl (by simp only[Tryz.ntmps155,List.length_cons,List.length_nil,Nat.reduceAdd,Nat.reduceSub,List.replicate_succ,List.replicate_zero,List.cons_append,List.nil_append];rfl) fun w0 S hM hT=>?_;have hF:Wf Fence.wide:=.inl rfl)
 (repeat' (first | ((first | with_reducible refine AL.id_ ?_ | with_reducible refine AE.id_ ?_);first | refine AL.build0 hF rfl rfl rfl (fun b=>⟨_,(by simp only[AV.put];rfl),?_⟩) | refine W.s rfl rfl (by first | exact AY.bx rfl (by simp only[evO,AV.get];rfl) rfl | exact AY.mkFn rfl (by simp only[List.map_cons,List.map_nil,evO,AV.get];rfl) | exact AY.mkFn1 rfl (by simp only[evO,AV.get];rfl) (by simp only[List.map_cons,List.map_nil,evO,AV.get];rfl) | exact hEQ rfl rfl rfl | exact Step2.sound (by first | (((first | (apply Step2.a;constructor) | (apply Step2.b;constructor))<;>first | infer_instance | skip)<;>(first | infer_instance | (refine w64c ?_;omega) | (refine qud ?_;omega) | (refine qrJ ?_;omega) | (refine qrK ?_;omega) | (refine qua ?_;omega) | ((repeat (first | exact .head _ | refine .tail _ ?_));done) | assumption | (simp only[List.drop_succ_cons,List.drop_zero,List.length_map,Nat.zero_add,Nat.mul_one];rfl) | rfl | omega | (simp;done))) | fail) rfl | exact AY.call rfl rfl _ rfl (by fail) | exact AY.slice1 rfl rfl rfl (by rfl) (by first | (simp;done) | fail) | exact AY.callF rfl _ _ rfl _ rfl (by fail) | exact AY.old1k 0 rfl rfl rfl (by first | assumption | rfl) | exact AY.old1k 1 rfl rfl rfl (by first | assumption | rfl) | exact AY.old1k 2 rfl rfl rfl (by first | assumption | rfl) | exact AY.oldNk 0 rfl rfl rfl (by first | omega | (simp;omega)) (by first | assumption | rfl) | exact AY.oldNk 1 rfl rfl rfl (by first | omega | (simp;omega)) (by first | assumption | rfl)) (by simp only[AV.put];rfl) ?_ | (refine AL.nilK (hK _ _ ?_);clear hK K) | (refine AE.nil (hK _ ?_);clear hK K) | refine W.k rfl rfl (by simp only[AV.put];rfl) ?_ | refine AL.unguardS rfl rfl ?_ | refine AL.al hF rfl rfl rfl (by first | (simp only[Value.cells,List.map_cons,List.map_nil];rfl) | rfl) (fun b=>⟨_,(by simp only[AV.put];rfl),?_⟩) | refine AL.st1 hF rfl rfl rfl rfl (by simp only[evO,AV.get];rfl) (by first | exact qma | exact qmb | exact qmc | exact qmd | exact qme | exact qmf | exact qmg | exact qmh) (by rfl) rfl (by rfl) (by first | (simp;done) | (simp;omega) | omega) (by simp only[List.set];rfl) ?_ | refine AL.stW hF rfl rfl rfl rfl (by simp only[evO,AV.get];rfl) (by first | exact qma | exact qmb | exact qmc | exact qmd | exact qme | exact qmf | exact qmg | exact qmh) (by rfl) (by rfl) (by rfl) (by first | rfl | simp) (by simp only[List.set];rfl) ?_) | (with_reducible refine Awp.id_ ?_;first | refine Awp.seq ?_ | refine Awp.regionK (by first | (simp only[AV.putO,AV.put];rfl) | rfl) (fun K hK=>?_) | refine Awp.drawE (by first | (simp only[AV.putO,AV.put];rfl) | rfl) mixed rfl (by kernel_rfl) (fun K hK=>?_) | refine Awp.block ?_ | refine Awp.skip ?_ | refine Awp.exit ?_ | refine Awp.ret ?_ | refine Awp.condT rfl ?_ | refine Awp.condF rfl ?_) | refine qpL ?_ | refine qpM ?_ | refine qpN ?_ | refine qln ?_ | refine qlo ?_ | refine qlp ?_ | refine qlq rfl ?_ | ((first | ((first | with_reducible refine AL.id_ ?_ | with_reducible refine AE.id_ ?_);(fail_if_success refine W.on rfl ?_);refine W.p rfl rfl (by simp only[AV.put];rfl) (by simp only[AV.put];rfl) (fun hb=>?_) (fun hb=>?_)) | (with_reducible refine Awp.id_ ?_;refine Awp.cond _ rfl (fun hb=>?_) (fun hb=>?_)))<;>(try simp only[z1,z2,z3,z4,z5,z6,z7,z8,y5,y6,y7,y8,z9,x1,x2,x3,x4,x5,x6,x7,x8] at hb;try (exfalso;omega)))))
 refine Awp.loopM [4,5,10,11,12,13,14,15,16,17,18,19,20,21,22,23,24,25,26,27,28,29,30] [9] (fun n vs H=>∃(k:Nat) (X':Nat→Prop),n+k=ss.length∧vs=[.int k]∧H=[.nodef,.ghost X' (J (qj9 ss k))]) ss.length ⟨0,X,rfl,rfl,rfl⟩ ?_
 rintro n ju vs H ⟨k,X',hk,rfl,rfl⟩
 (refine Awp.slots (by first | (simp only[putl,mask,AV.put];rfl) | rfl) ?_)
 by_cases hlt:k<ss.length
 ·have hrow:=hra k hlt
  have hYk:=Lib.hid (hY.out k hlt)
  have hNk:=hN.out k hlt
  obtain ⟨hb1,hb2⟩:=hbd _ (List.getElem_mem hlt)
  generalize ss[k].1=hu at *
  generalize ss[k].2.1=lo at *
  generalize ss[k].2.2=hi at *
  (repeat' (first | ((first | with_reducible refine AL.id_ ?_ | with_reducible refine AE.id_ ?_);first | refine AL.build0 hF rfl rfl rfl (fun b=>⟨_,(by simp only[AV.put];rfl),?_⟩) | refine W.s rfl rfl (by first | exact AY.bx rfl (by simp only[evO,AV.get];rfl) rfl | exact AY.mkFn rfl (by simp only[List.map_cons,List.map_nil,evO,AV.get];rfl) | exact AY.mkFn1 rfl (by simp only[evO,AV.get];rfl) (by simp only[List.map_cons,List.map_nil,evO,AV.get];rfl) | exact hEQ rfl rfl rfl | exact Step2.sound (by first | (((first | (apply Step2.a;constructor) | (apply Step2.b;constructor))<;>first | infer_instance | skip)<;>(first | infer_instance | (refine w64c ?_;omega) | (refine qud ?_;omega) | (refine qrJ ?_;omega) | (refine qrK ?_;omega) | (refine qua ?_;omega) | ((repeat (first | exact .head _ | refine .tail _ ?_));done) | assumption | (simp only[List.drop_succ_cons,List.drop_zero,List.length_map,Nat.zero_add,Nat.mul_one];rfl) | rfl | omega | (simp;done))) | fail) rfl | exact AY.call rfl rfl _ rfl (by fail) | exact AY.slice1 rfl rfl rfl (by rfl) (by first | (simp;done) | fail) | exact AY.callF rfl _ _ rfl _ rfl (by fail) | exact AY.old1k 0 rfl rfl rfl (by first | assumption | rfl) | exact AY.old1k 1 rfl rfl rfl (by first | assumption | rfl) | exact AY.old1k 2 rfl rfl rfl (by first | assumption | rfl) | exact AY.oldNk 0 rfl rfl rfl (by first | omega | (simp;omega)) (by first | assumption | rfl) | exact AY.oldNk 1 rfl rfl rfl (by first | omega | (simp;omega)) (by first | assumption | rfl)) (by simp only[AV.put];rfl) ?_ | (refine AL.nilK (hK _ _ ?_);clear hK K) | (refine AE.nil (hK _ ?_);clear hK K) | refine W.k rfl rfl (by simp only[AV.put];rfl) ?_ | refine AL.unguardS rfl rfl ?_ | refine AL.al hF rfl rfl rfl (by first | (simp only[Value.cells,List.map_cons,List.map_nil];rfl) | rfl) (fun b=>⟨_,(by simp only[AV.put];rfl),?_⟩) | refine AL.st1 hF rfl rfl rfl rfl (by simp only[evO,AV.get];rfl) (by first | exact qma | exact qmb | exact qmc | exact qmd | exact qme | exact qmf | exact qmg | exact qmh) (by rfl) rfl (by rfl) (by first | (simp;done) | (simp;omega) | omega) (by simp only[List.set];rfl) ?_ | refine AL.stW hF rfl rfl rfl rfl (by simp only[evO,AV.get];rfl) (by first | exact qma | exact qmb | exact qmc | exact qmd | exact qme | exact qmf | exact qmg | exact qmh) (by rfl) (by rfl) (by rfl) (by first | rfl | simp) (by simp only[List.set];rfl) ?_) | (with_reducible refine Awp.id_ ?_;first | refine Awp.seq ?_ | refine Awp.regionK (by first | (simp only[AV.putO,AV.put];rfl) | rfl) (fun K hK=>?_) | refine Awp.drawE (by first | (simp only[AV.putO,AV.put];rfl) | rfl) mixed rfl (by kernel_rfl) (fun K hK=>?_) | refine Awp.block ?_ | refine Awp.skip ?_ | refine Awp.exit ?_ | refine Awp.ret ?_ | refine Awp.condT rfl ?_ | refine Awp.condF rfl ?_) | refine qpL ?_ | refine qpM ?_ | refine qpN ?_ | refine qln ?_ | refine qlo ?_ | refine qlp ?_ | refine qlq rfl ?_ | ((first | ((first | with_reducible refine AL.id_ ?_ | with_reducible refine AE.id_ ?_);(fail_if_success refine W.on rfl ?_);refine W.p rfl rfl (by simp only[AV.put];rfl) (by simp only[AV.put];rfl) (fun hb=>?_) (fun hb=>?_)) | (with_reducible refine Awp.id_ ?_;refine Awp.cond _ rfl (fun hb=>?_) (fun hb=>?_)))<;>(try simp only[z1,z2,z3,z4,z5,z6,z7,z8,y5,y6,y7,y8,z9,x1,x2,x3,x4,x5,x6,x7,x8] at hb;try (exfalso;omega)))))
  refine Awp.loopM [16,17,18,19,20,21,22,23,24,25,26,27,28,29] [5] (fun n vs H=>∃(j:Nat) (X3:Nat→Prop),n+j=(hi+1-lo).toNat∧vs=[.int (lo+j)]∧H=[.blk b 84 [.int hu,.int lo,.int hi],.nodef,.ghost X3 (J (qj9 ss k+j))]) (hi+1-lo).toNat ⟨0,X',by omega,by simp;rfl,rfl⟩ ?_
  rintro n1 ju1 vs1 H1 ⟨j,X3,hj,rfl,rfl⟩
  (refine Awp.slots (by first | (simp only[putl,mask,AV.put];rfl) | rfl) ?_)
  by_cases hlt2:j<(hi+1-lo).toNat
  ·have hle:lo+j≤hi:=by omega
   have hye:=hYk.out j hlt2
   (repeat' (first | ((first | with_reducible refine AL.id_ ?_ | with_reducible refine AE.id_ ?_);first | refine AL.build0 hF rfl rfl rfl (fun b=>⟨_,(by simp only[AV.put];rfl),?_⟩) | refine W.s rfl rfl (by first | exact AY.bx rfl (by simp only[evO,AV.get];rfl) rfl | exact AY.mkFn rfl (by simp only[List.map_cons,List.map_nil,evO,AV.get];rfl) | exact AY.mkFn1 rfl (by simp only[evO,AV.get];rfl) (by simp only[List.map_cons,List.map_nil,evO,AV.get];rfl) | exact AY.build rfl (by simp only[List.map_cons,List.map_nil,evO,AV.get];rfl) (by simp only[List.map_cons,List.map_nil];repeat (first | exact Places.nil | apply Places.cons)) (by first | (simp only[zip3,qdC,qfi,qb5,ql,qhO,List.map_cons,List.map_nil,List.length_cons,List.length_nil,List.take_succ_cons,List.take_zero,List.drop_succ_cons,List.drop_zero,List.replicate_succ,List.replicate_zero,List.cons_append,List.nil_append,List.append_nil,List.drop_nil,List.take_nil,List.toList_toArray,Nat.sub_zero,Nat.reduceSub,Nat.reduceAdd,Nat.reduceMul,Nat.zero_mul,Nat.one_mul,Nat.mul_one,Nat.zero_add,Nat.le_refl,Nat.reduceLeDiff,and_self,true_and,and_true,if_true];rfl) | rfl) | exact AY.buildS rfl (by simp only[List.map_cons,List.map_nil,evO,AV.get];rfl) (by first | rfl | decide) (by omega) (by first | (simp only[zip3,qdC,qfi,qb5,ql,qhO,List.map_cons,List.map_nil,List.length_cons,List.length_nil,List.take_succ_cons,List.take_zero,List.drop_succ_cons,List.drop_zero,List.replicate_succ,List.replicate_zero,List.cons_append,List.nil_append,List.append_nil,List.drop_nil,List.take_nil,List.toList_toArray,Nat.sub_zero,Nat.reduceSub,Nat.reduceAdd,Nat.reduceMul,Nat.zero_mul,Nat.one_mul,Nat.mul_one,Nat.zero_add,Nat.le_refl,Nat.reduceLeDiff,and_self,true_and,and_true,if_true];rfl) | rfl) (by first | (simp only[zip3,qdC,qfi,qb5,ql,qhO,List.map_cons,List.map_nil,List.length_cons,List.length_nil,List.take_succ_cons,List.take_zero,List.drop_succ_cons,List.drop_zero,List.replicate_succ,List.replicate_zero,List.cons_append,List.nil_append,List.append_nil,List.drop_nil,List.take_nil,List.toList_toArray,Nat.sub_zero,Nat.reduceSub,Nat.reduceAdd,Nat.reduceMul,Nat.zero_mul,Nat.one_mul,Nat.mul_one,Nat.zero_add,Nat.le_refl,Nat.reduceLeDiff,and_self,true_and,and_true,if_true];rfl) | rfl) | exact hEQ rfl rfl rfl | exact Step2.sound (by first | (((first | (apply Step2.a;constructor) | (apply Step2.b;constructor))<;>first | infer_instance | skip)<;>(first | infer_instance | (refine w64c ?_;omega) | (refine qud ?_;omega) | (refine qrJ ?_;omega) | (refine qrK ?_;omega) | (refine qua ?_;omega) | ((repeat (first | exact .head _ | refine .tail _ ?_));done) | assumption | (simp only[List.drop_succ_cons,List.drop_zero,List.length_map,Nat.zero_add,Nat.mul_one];rfl) | rfl | omega | (simp;done))) | fail) rfl | exact AY.call rfl rfl _ rfl (by fail) | exact AY.slice1 rfl rfl rfl (by rfl) (by first | (simp;done) | fail) | exact AY.callF rfl _ _ rfl _ rfl (by fail) | exact AY.old1k 0 rfl rfl rfl (by first | assumption | rfl) | exact AY.old1k 1 rfl rfl rfl (by first | assumption | rfl) | exact AY.old1k 2 rfl rfl rfl (by first | assumption | rfl) | exact AY.oldNk 0 rfl rfl rfl (by first | omega | (simp;omega)) (by first | assumption | rfl) | exact AY.oldNk 1 rfl rfl rfl (by first | omega | (simp;omega)) (by first | assumption | rfl)) (by simp only[AV.put];rfl) ?_ | (refine AL.nilK (hK _ _ ?_);clear hK K) | (refine AE.nil (hK _ ?_);clear hK K) | refine W.k rfl rfl (by simp only[AV.put];rfl) ?_ | refine AL.unguardS rfl rfl ?_ | refine AL.al hF rfl rfl rfl (by first | (simp only[Value.cells,List.map_cons,List.map_nil];rfl) | rfl) (fun b=>⟨_,(by simp only[AV.put];rfl),?_⟩) | refine AL.st1 hF rfl rfl rfl rfl (by simp only[evO,AV.get];rfl) (by first | exact qma | exact qmb | exact qmc | exact qmd | exact qme | exact qmf | exact qmg | exact qmh) (by rfl) rfl (by rfl) (by first | (simp;done) | (simp;omega) | omega) (by simp only[List.set];rfl) ?_ | refine AL.stW hF rfl rfl rfl rfl (by simp only[evO,AV.get];rfl) (by first | exact qma | exact qmb | exact qmc | exact qmd | exact qme | exact qmf | exact qmg | exact qmh) (by rfl) (by rfl) (by rfl) (by first | rfl | simp) (by simp only[List.set];rfl) ?_) | (with_reducible refine Awp.id_ ?_;first | refine Awp.seq ?_ | refine Awp.regionK (by first | (simp only[AV.putO,AV.put];rfl) | rfl) (fun K hK=>?_) | refine Awp.drawE (by first | (simp only[AV.putO,AV.put];rfl) | rfl) mixed rfl (by kernel_rfl) (fun K hK=>?_) | refine Awp.block ?_ | refine Awp.skip ?_ | refine Awp.exit ?_ | refine Awp.ret ?_ | refine Awp.condT rfl ?_ | refine Awp.condF rfl ?_) | refine qpL ?_ | refine qpM ?_ | refine qpN ?_ | refine qln ?_ | refine qlo ?_ | refine qlp ?_ | refine qlq rfl ?_ | ((first | ((first | with_reducible refine AL.id_ ?_ | with_reducible refine AE.id_ ?_);(fail_if_success refine W.on rfl ?_);refine W.p rfl rfl (by simp only[AV.put];rfl) (by simp only[AV.put];rfl) (fun hb=>?_) (fun hb=>?_)) | (with_reducible refine Awp.id_ ?_;refine Awp.cond _ rfl (fun hb=>?_) (fun hb=>?_)))<;>(try simp only[z1,z2,z3,z4,z5,z6,z7,z8,y5,y6,y7,y8,z9,x1,x2,x3,x4,x5,x6,x7,x8] at hb;try (exfalso;omega)))))
   have hgho:∀i e,([HE.blk b 84 [.int hu,.int lo,.int hi],.nodef,.ghost X3 (J (qj9 ss k+j))])[i]?=some e→e.isGhost→i=2:=fun i e h1 h2=>by
    match i,h1 with
    | 0,h1=>cases h1;exact h2.elim
    | 1,h1=>cases h1;exact h2.elim
    | 2,_=>rfl
   refine AL.yield 2 rfl rfl rfl rfl _ rfl rfl hgho (by simp) (fun b hA=>hT b fun h=>(hA.1 h).1) hye (hcJ _) hcx (fun X4=>?_) (fun X4=>?_)
   ·refine AL.norm (by simp only[AV.put];rfl) rfl ?_
    (repeat' (first | ((first | with_reducible refine AL.id_ ?_ | with_reducible refine AE.id_ ?_);first | refine AL.build0 hF rfl rfl rfl (fun b=>⟨_,(by simp only[AV.put];rfl),?_⟩) | refine W.s rfl rfl (by first | exact AY.bx rfl (by simp only[evO,AV.get];rfl) rfl | exact AY.mkFn rfl (by simp only[List.map_cons,List.map_nil,evO,AV.get];rfl) | exact AY.mkFn1 rfl (by simp only[evO,AV.get];rfl) (by simp only[List.map_cons,List.map_nil,evO,AV.get];rfl) | exact AY.build rfl (by simp only[List.map_cons,List.map_nil,evO,AV.get];rfl) (by simp only[List.map_cons,List.map_nil];repeat (first | exact Places.nil | apply Places.cons)) (by first | (simp only[zip3,qdC,qfi,qb5,ql,qhO,List.map_cons,List.map_nil,List.length_cons,List.length_nil,List.take_succ_cons,List.take_zero,List.drop_succ_cons,List.drop_zero,List.replicate_succ,List.replicate_zero,List.cons_append,List.nil_append,List.append_nil,List.drop_nil,List.take_nil,List.toList_toArray,Nat.sub_zero,Nat.reduceSub,Nat.reduceAdd,Nat.reduceMul,Nat.zero_mul,Nat.one_mul,Nat.mul_one,Nat.zero_add,Nat.le_refl,Nat.reduceLeDiff,and_self,true_and,and_true,if_true];rfl) | rfl) | exact AY.buildS rfl (by simp only[List.map_cons,List.map_nil,evO,AV.get];rfl) (by first | rfl | decide) (by omega) (by first | (simp only[zip3,qdC,qfi,qb5,ql,qhO,List.map_cons,List.map_nil,List.length_cons,List.length_nil,List.take_succ_cons,List.take_zero,List.drop_succ_cons,List.drop_zero,List.replicate_succ,List.replicate_zero,List.cons_append,List.nil_append,List.append_nil,List.drop_nil,List.take_nil,List.toList_toArray,Nat.sub_zero,Nat.reduceSub,Nat.reduceAdd,Nat.reduceMul,Nat.zero_mul,Nat.one_mul,Nat.mul_one,Nat.zero_add,Nat.le_refl,Nat.reduceLeDiff,and_self,true_and,and_true,if_true];rfl) | rfl) (by first | (simp only[zip3,qdC,qfi,qb5,ql,qhO,List.map_cons,List.map_nil,List.length_cons,List.length_nil,List.take_succ_cons,List.take_zero,List.drop_succ_cons,List.drop_zero,List.replicate_succ,List.replicate_zero,List.cons_append,List.nil_append,List.append_nil,List.drop_nil,List.take_nil,List.toList_toArray,Nat.sub_zero,Nat.reduceSub,Nat.reduceAdd,Nat.reduceMul,Nat.zero_mul,Nat.one_mul,Nat.mul_one,Nat.zero_add,Nat.le_refl,Nat.reduceLeDiff,and_self,true_and,and_true,if_true];rfl) | rfl) | exact hEQ rfl rfl rfl | exact Step2.sound (by first | (((first | (apply Step2.a;constructor) | (apply Step2.b;constructor))<;>first | infer_instance | skip)<;>(first | infer_instance | (refine w64c ?_;omega) | (refine qud ?_;omega) | (refine qrJ ?_;omega) | (refine qrK ?_;omega) | (refine qua ?_;omega) | ((repeat (first | exact .head _ | refine .tail _ ?_));done) | assumption | (simp only[List.drop_succ_cons,List.drop_zero,List.length_map,Nat.zero_add,Nat.mul_one];rfl) | rfl | omega | (simp;done))) | fail) rfl | exact AY.call rfl rfl _ rfl (by fail) | exact AY.slice1 rfl rfl rfl (by rfl) (by first | (simp;done) | fail) | exact AY.callF rfl _ _ rfl _ rfl (by fail) | exact AY.old1k 0 rfl rfl rfl (by first | assumption | rfl) | exact AY.old1k 1 rfl rfl rfl (by first | assumption | rfl) | exact AY.old1k 2 rfl rfl rfl (by first | assumption | rfl) | exact AY.oldNk 0 rfl rfl rfl (by first | omega | (simp;omega)) (by first | assumption | rfl) | exact AY.oldNk 1 rfl rfl rfl (by first | omega | (simp;omega)) (by first | assumption | rfl)) (by simp only[AV.put];rfl) ?_ | (refine AL.nilK (hK _ _ ?_);clear hK K) | (refine AE.nil (hK _ ?_);clear hK K) | refine W.k rfl rfl (by simp only[AV.put];rfl) ?_ | refine AL.unguardS rfl rfl ?_ | refine AL.al hF rfl rfl rfl (by first | (simp only[Value.cells,List.map_cons,List.map_nil];rfl) | rfl) (fun b=>⟨_,(by simp only[AV.put];rfl),?_⟩) | refine AL.st1 hF rfl rfl rfl rfl (by simp only[evO,AV.get];rfl) (by first | exact qma | exact qmb | exact qmc | exact qmd | exact qme | exact qmf | exact qmg | exact qmh) (by rfl) rfl (by rfl) (by first | (simp;done) | (simp;omega) | omega) (by simp only[List.set];rfl) ?_ | refine AL.stW hF rfl rfl rfl rfl (by simp only[evO,AV.get];rfl) (by first | exact qma | exact qmb | exact qmc | exact qmd | exact qme | exact qmf | exact qmg | exact qmh) (by rfl) (by rfl) (by rfl) (by first | rfl | simp) (by simp only[List.set];rfl) ?_) | (with_reducible refine Awp.id_ ?_;first | refine Awp.seq ?_ | refine Awp.regionK (by first | (simp only[AV.putO,AV.put];rfl) | rfl) (fun K hK=>?_) | refine Awp.drawE (by first | (simp only[AV.putO,AV.put];rfl) | rfl) mixed rfl (by kernel_rfl) (fun K hK=>?_) | refine Awp.block ?_ | refine Awp.skip ?_ | refine Awp.exit ?_ | refine Awp.ret ?_ | refine Awp.condT rfl ?_ | refine Awp.condF rfl ?_) | refine qpL ?_ | refine qpM ?_ | refine qpN ?_ | refine qln ?_ | refine qlo ?_ | refine qlp ?_ | refine qlq rfl ?_ | ((first | ((first | with_reducible refine AL.id_ ?_ | with_reducible refine AE.id_ ?_);(fail_if_success refine W.on rfl ?_);refine W.p rfl rfl (by simp only[AV.put];rfl) (by simp only[AV.put];rfl) (fun hb=>?_) (fun hb=>?_)) | (with_reducible refine Awp.id_ ?_;refine Awp.cond _ rfl (fun hb=>?_) (fun hb=>?_)))<;>(try simp only[z1,z2,z3,z4,z5,z6,z7,z8,y5,y6,y7,y8,z9,x1,x2,x3,x4,x5,x6,x7,x8] at hb;try (exfalso;omega)))))
    (refine qIj (n1-1) (by first | (simp only[AV.putO,AV.put];rfl) | rfl) (by omega) ?_ (by simp only[List.map,AV.get,mask,putl,AV.put]))
    exact ⟨j+1,X4,by omega,qH4 (by omega),rfl⟩
   ·refine AL.norm (by simp only[AV.put];rfl) rfl ?_
    (repeat' (first | ((first | with_reducible refine AL.id_ ?_ | with_reducible refine AE.id_ ?_);first | refine AL.build0 hF rfl rfl rfl (fun b=>⟨_,(by simp only[AV.put];rfl),?_⟩) | refine W.s rfl rfl (by first | exact AY.bx rfl (by simp only[evO,AV.get];rfl) rfl | exact AY.mkFn rfl (by simp only[List.map_cons,List.map_nil,evO,AV.get];rfl) | exact AY.mkFn1 rfl (by simp only[evO,AV.get];rfl) (by simp only[List.map_cons,List.map_nil,evO,AV.get];rfl) | exact AY.build rfl (by simp only[List.map_cons,List.map_nil,evO,AV.get];rfl) (by simp only[List.map_cons,List.map_nil];repeat (first | exact Places.nil | apply Places.cons)) (by first | (simp only[zip3,qdC,qfi,qb5,ql,qhO,List.map_cons,List.map_nil,List.length_cons,List.length_nil,List.take_succ_cons,List.take_zero,List.drop_succ_cons,List.drop_zero,List.replicate_succ,List.replicate_zero,List.cons_append,List.nil_append,List.append_nil,List.drop_nil,List.take_nil,List.toList_toArray,Nat.sub_zero,Nat.reduceSub,Nat.reduceAdd,Nat.reduceMul,Nat.zero_mul,Nat.one_mul,Nat.mul_one,Nat.zero_add,Nat.le_refl,Nat.reduceLeDiff,and_self,true_and,and_true,if_true];rfl) | rfl) | exact AY.buildS rfl (by simp only[List.map_cons,List.map_nil,evO,AV.get];rfl) (by first | rfl | decide) (by omega) (by first | (simp only[zip3,qdC,qfi,qb5,ql,qhO,List.map_cons,List.map_nil,List.length_cons,List.length_nil,List.take_succ_cons,List.take_zero,List.drop_succ_cons,List.drop_zero,List.replicate_succ,List.replicate_zero,List.cons_append,List.nil_append,List.append_nil,List.drop_nil,List.take_nil,List.toList_toArray,Nat.sub_zero,Nat.reduceSub,Nat.reduceAdd,Nat.reduceMul,Nat.zero_mul,Nat.one_mul,Nat.mul_one,Nat.zero_add,Nat.le_refl,Nat.reduceLeDiff,and_self,true_and,and_true,if_true];rfl) | rfl) (by first | (simp only[zip3,qdC,qfi,qb5,ql,qhO,List.map_cons,List.map_nil,List.length_cons,List.length_nil,List.take_succ_cons,List.take_zero,List.drop_succ_cons,List.drop_zero,List.replicate_succ,List.replicate_zero,List.cons_append,List.nil_append,List.append_nil,List.drop_nil,List.take_nil,List.toList_toArray,Nat.sub_zero,Nat.reduceSub,Nat.reduceAdd,Nat.reduceMul,Nat.zero_mul,Nat.one_mul,Nat.mul_one,Nat.zero_add,Nat.le_refl,Nat.reduceLeDiff,and_self,true_and,and_true,if_true];rfl) | rfl) | exact hEQ rfl rfl rfl | exact Step2.sound (by first | (((first | (apply Step2.a;constructor) | (apply Step2.b;constructor))<;>first | infer_instance | skip)<;>(first | infer_instance | (refine w64c ?_;omega) | (refine qud ?_;omega) | (refine qrJ ?_;omega) | (refine qrK ?_;omega) | (refine qua ?_;omega) | ((repeat (first | exact .head _ | refine .tail _ ?_));done) | assumption | (simp only[List.drop_succ_cons,List.drop_zero,List.length_map,Nat.zero_add,Nat.mul_one];rfl) | rfl | omega | (simp;done))) | fail) rfl | exact AY.call rfl rfl _ rfl (by fail) | exact AY.slice1 rfl rfl rfl (by rfl) (by first | (simp;done) | fail) | exact AY.callF rfl _ _ rfl _ rfl (by fail) | exact AY.old1k 0 rfl rfl rfl (by first | assumption | rfl) | exact AY.old1k 1 rfl rfl rfl (by first | assumption | rfl) | exact AY.old1k 2 rfl rfl rfl (by first | assumption | rfl) | exact AY.oldNk 0 rfl rfl rfl (by first | omega | (simp;omega)) (by first | assumption | rfl) | exact AY.oldNk 1 rfl rfl rfl (by first | omega | (simp;omega)) (by first | assumption | rfl)) (by simp only[AV.put];rfl) ?_ | (refine AL.nilK (hK _ _ ?_);clear hK K) | (refine AE.nil (hK _ ?_);clear hK K) | refine W.k rfl rfl (by simp only[AV.put];rfl) ?_ | refine AL.unguardS rfl rfl ?_ | refine AL.al hF rfl rfl rfl (by first | (simp only[Value.cells,List.map_cons,List.map_nil];rfl) | rfl) (fun b=>⟨_,(by simp only[AV.put];rfl),?_⟩) | refine AL.st1 hF rfl rfl rfl rfl (by simp only[evO,AV.get];rfl) (by first | exact qma | exact qmb | exact qmc | exact qmd | exact qme | exact qmf | exact qmg | exact qmh) (by rfl) rfl (by rfl) (by first | (simp;done) | (simp;omega) | omega) (by simp only[List.set];rfl) ?_ | refine AL.stW hF rfl rfl rfl rfl (by simp only[evO,AV.get];rfl) (by first | exact qma | exact qmb | exact qmc | exact qmd | exact qme | exact qmf | exact qmg | exact qmh) (by rfl) (by rfl) (by rfl) (by first | rfl | simp) (by simp only[List.set];rfl) ?_) | (with_reducible refine Awp.id_ ?_;first | refine Awp.seq ?_ | refine Awp.regionK (by first | (simp only[AV.putO,AV.put];rfl) | rfl) (fun K hK=>?_) | refine Awp.drawE (by first | (simp only[AV.putO,AV.put];rfl) | rfl) mixed rfl (by kernel_rfl) (fun K hK=>?_) | refine Awp.block ?_ | refine Awp.skip ?_ | refine Awp.exit ?_ | refine Awp.ret ?_ | refine Awp.condT rfl ?_ | refine Awp.condF rfl ?_) | refine qpL ?_ | refine qpM ?_ | refine qpN ?_ | refine qln ?_ | refine qlo ?_ | refine qlp ?_ | refine qlq rfl ?_ | ((first | ((first | with_reducible refine AL.id_ ?_ | with_reducible refine AE.id_ ?_);(fail_if_success refine W.on rfl ?_);refine W.p rfl rfl (by simp only[AV.put];rfl) (by simp only[AV.put];rfl) (fun hb=>?_) (fun hb=>?_)) | (with_reducible refine Awp.id_ ?_;refine Awp.cond _ rfl (fun hb=>?_) (fun hb=>?_)))<;>(try simp only[z1,z2,z3,z4,z5,z6,z7,z8,y5,y6,y7,y8,z9,x1,x2,x3,x4,x5,x6,x7,x8] at hb;try (exfalso;omega)))))
    exact qEs rfl ⟨X4,.inr (List.mem_of_getElem? (i:=2) rfl)⟩
  ·have hle:¬(lo+j≤hi):=by omega
   (repeat' (first | ((first | with_reducible refine AL.id_ ?_ | with_reducible refine AE.id_ ?_);first | refine AL.build0 hF rfl rfl rfl (fun b=>⟨_,(by simp only[AV.put];rfl),?_⟩) | refine W.s rfl rfl (by first | exact AY.bx rfl (by simp only[evO,AV.get];rfl) rfl | exact AY.mkFn rfl (by simp only[List.map_cons,List.map_nil,evO,AV.get];rfl) | exact AY.mkFn1 rfl (by simp only[evO,AV.get];rfl) (by simp only[List.map_cons,List.map_nil,evO,AV.get];rfl) | exact hEQ rfl rfl rfl | exact Step2.sound (by first | (((first | (apply Step2.a;constructor) | (apply Step2.b;constructor))<;>first | infer_instance | skip)<;>(first | infer_instance | (refine w64c ?_;omega) | (refine qud ?_;omega) | (refine qrJ ?_;omega) | (refine qrK ?_;omega) | (refine qua ?_;omega) | ((repeat (first | exact .head _ | refine .tail _ ?_));done) | assumption | (simp only[List.drop_succ_cons,List.drop_zero,List.length_map,Nat.zero_add,Nat.mul_one];rfl) | rfl | omega | (simp;done))) | fail) rfl | exact AY.call rfl rfl _ rfl (by fail) | exact AY.slice1 rfl rfl rfl (by rfl) (by first | (simp;done) | fail) | exact AY.callF rfl _ _ rfl _ rfl (by fail) | exact AY.old1k 0 rfl rfl rfl (by first | assumption | rfl) | exact AY.old1k 1 rfl rfl rfl (by first | assumption | rfl) | exact AY.old1k 2 rfl rfl rfl (by first | assumption | rfl) | exact AY.oldNk 0 rfl rfl rfl (by first | omega | (simp;omega)) (by first | assumption | rfl) | exact AY.oldNk 1 rfl rfl rfl (by first | omega | (simp;omega)) (by first | assumption | rfl)) (by simp only[AV.put];rfl) ?_ | (refine AL.nilK (hK _ _ ?_);clear hK K) | (refine AE.nil (hK _ ?_);clear hK K) | refine W.k rfl rfl (by simp only[AV.put];rfl) ?_ | refine AL.unguardS rfl rfl ?_ | refine AL.al hF rfl rfl rfl (by first | (simp only[Value.cells,List.map_cons,List.map_nil];rfl) | rfl) (fun b=>⟨_,(by simp only[AV.put];rfl),?_⟩) | refine AL.st1 hF rfl rfl rfl rfl (by simp only[evO,AV.get];rfl) (by first | exact qma | exact qmb | exact qmc | exact qmd | exact qme | exact qmf | exact qmg | exact qmh) (by rfl) rfl (by rfl) (by first | (simp;done) | (simp;omega) | omega) (by simp only[List.set];rfl) ?_ | refine AL.stW hF rfl rfl rfl rfl (by simp only[evO,AV.get];rfl) (by first | exact qma | exact qmb | exact qmc | exact qmd | exact qme | exact qmf | exact qmg | exact qmh) (by rfl) (by rfl) (by rfl) (by first | rfl | simp) (by simp only[List.set];rfl) ?_) | (with_reducible refine Awp.id_ ?_;first | refine Awp.seq ?_ | refine Awp.regionK (by first | (simp only[AV.putO,AV.put];rfl) | rfl) (fun K hK=>?_) | refine Awp.drawE (by first | (simp only[AV.putO,AV.put];rfl) | rfl) mixed rfl (by kernel_rfl) (fun K hK=>?_) | refine Awp.block ?_ | refine Awp.skip ?_ | refine Awp.exit ?_ | refine Awp.ret ?_ | refine Awp.condT rfl ?_ | refine Awp.condF rfl ?_) | refine qpL ?_ | refine qpM ?_ | refine qpN ?_ | refine qln ?_ | refine qlo ?_ | refine qlp ?_ | refine qlq rfl ?_ | ((first | ((first | with_reducible refine AL.id_ ?_ | with_reducible refine AE.id_ ?_);(fail_if_success refine W.on rfl ?_);refine W.p rfl rfl (by simp only[AV.put];rfl) (by simp only[AV.put];rfl) (fun hb=>?_) (fun hb=>?_)) | (with_reducible refine Awp.id_ ?_;refine Awp.cond _ rfl (fun hb=>?_) (fun hb=>?_)))<;>(try simp only[z1,z2,z3,z4,z5,z6,z7,z8,y5,y6,y7,y8,z9,x1,x2,x3,x4,x5,x6,x7,x8] at hb;try (exfalso;omega)))))
   (refine qGi (n-1) (List.sublist_cons_self _ _) (by first | (simp only[AV.putO,AV.put];rfl) | rfl) (by omega) ?_ (by simp only[List.map,AV.get,mask,putl,AV.put]))
   exact ⟨k+1,X3,by omega,qH4 (by omega),by rw[hNk,show (hi+1-lo).toNat=j by omega]⟩
 ·(repeat' (first | ((first | with_reducible refine AL.id_ ?_ | with_reducible refine AE.id_ ?_);first | refine AL.build0 hF rfl rfl rfl (fun b=>⟨_,(by simp only[AV.put];rfl),?_⟩) | refine W.s rfl rfl (by first | exact AY.bx rfl (by simp only[evO,AV.get];rfl) rfl | exact AY.mkFn rfl (by simp only[List.map_cons,List.map_nil,evO,AV.get];rfl) | exact AY.mkFn1 rfl (by simp only[evO,AV.get];rfl) (by simp only[List.map_cons,List.map_nil,evO,AV.get];rfl) | exact hEQ rfl rfl rfl | exact Step2.sound (by first | (((first | (apply Step2.a;constructor) | (apply Step2.b;constructor))<;>first | infer_instance | skip)<;>(first | infer_instance | (refine w64c ?_;omega) | (refine qud ?_;omega) | (refine qrJ ?_;omega) | (refine qrK ?_;omega) | (refine qua ?_;omega) | ((repeat (first | exact .head _ | refine .tail _ ?_));done) | assumption | (simp only[List.drop_succ_cons,List.drop_zero,List.length_map,Nat.zero_add,Nat.mul_one];rfl) | rfl | omega | (simp;done))) | fail) rfl | exact AY.call rfl rfl _ rfl (by fail) | exact AY.slice1 rfl rfl rfl (by rfl) (by first | (simp;done) | fail) | exact AY.callF rfl _ _ rfl _ rfl (by fail) | exact AY.old1k 0 rfl rfl rfl (by first | assumption | rfl) | exact AY.old1k 1 rfl rfl rfl (by first | assumption | rfl) | exact AY.old1k 2 rfl rfl rfl (by first | assumption | rfl) | exact AY.oldNk 0 rfl rfl rfl (by first | omega | (simp;omega)) (by first | assumption | rfl) | exact AY.oldNk 1 rfl rfl rfl (by first | omega | (simp;omega)) (by first | assumption | rfl)) (by simp only[AV.put];rfl) ?_ | (refine AL.nilK (hK _ _ ?_);clear hK K) | (refine AE.nil (hK _ ?_);clear hK K) | refine W.k rfl rfl (by simp only[AV.put];rfl) ?_ | refine AL.unguardS rfl rfl ?_ | refine AL.al hF rfl rfl rfl (by first | (simp only[Value.cells,List.map_cons,List.map_nil];rfl) | rfl) (fun b=>⟨_,(by simp only[AV.put];rfl),?_⟩) | refine AL.st1 hF rfl rfl rfl rfl (by simp only[evO,AV.get];rfl) (by first | exact qma | exact qmb | exact qmc | exact qmd | exact qme | exact qmf | exact qmg | exact qmh) (by rfl) rfl (by rfl) (by first | (simp;done) | (simp;omega) | omega) (by simp only[List.set];rfl) ?_ | refine AL.stW hF rfl rfl rfl rfl (by simp only[evO,AV.get];rfl) (by first | exact qma | exact qmb | exact qmc | exact qmd | exact qme | exact qmf | exact qmg | exact qmh) (by rfl) (by rfl) (by rfl) (by first | rfl | simp) (by simp only[List.set];rfl) ?_) | (with_reducible refine Awp.id_ ?_;first | refine Awp.seq ?_ | refine Awp.regionK (by first | (simp only[AV.putO,AV.put];rfl) | rfl) (fun K hK=>?_) | refine Awp.drawE (by first | (simp only[AV.putO,AV.put];rfl) | rfl) mixed rfl (by kernel_rfl) (fun K hK=>?_) | refine Awp.block ?_ | refine Awp.skip ?_ | refine Awp.exit ?_ | refine Awp.ret ?_ | refine Awp.condT rfl ?_ | refine Awp.condF rfl ?_) | refine qpL ?_ | refine qpM ?_ | refine qpN ?_ | refine qln ?_ | refine qlo ?_ | refine qlp ?_ | refine qlq rfl ?_ | ((first | ((first | with_reducible refine AL.id_ ?_ | with_reducible refine AE.id_ ?_);(fail_if_success refine W.on rfl ?_);refine W.p rfl rfl (by simp only[AV.put];rfl) (by simp only[AV.put];rfl) (fun hb=>?_) (fun hb=>?_)) | (with_reducible refine Awp.id_ ?_;refine Awp.cond _ rfl (fun hb=>?_) (fun hb=>?_)))<;>(try simp only[z1,z2,z3,z4,z5,z6,z7,z8,y5,y6,y7,y8,z9,x1,x2,x3,x4,x5,x6,x7,x8] at hb;try (exfalso;omega)))))
  exact qGk rfl ⟨X',.inl (by rw[show ss.length=k by omega];exact List.mem_of_getElem? (i:=1) rfl)⟩
def qAe:Itr Tryz.prog:=⟨155,[T77],[T150],false,0,fun x=>qrV x.1.2.2.2.2,fun x l h=>qG8 x l h⟩
section
def qqV(n:Nat):CL Tryz.prog:=⟨[],[],0,fun _=>false⟩
def qu3(n:Nat):Nat→St→PT (DEx×St):=fun _ _=>.fail
theorem qBA(n:Nat):qbr (qqV n).c (qA Tryz.f121) 0=[]:=by kernel_rfl
theorem qBB:Tryz.f121.body=some (qA Tryz.f121):=by kernel_rfl
abbrev qrW:List Ar:=[.d T77]
abbrev qoY:List Ty:=[T77]
def qvY(n:Nat)(x:qhj qrW):Option (qU qoY):=(qgN tab (qqV n) (qu3 n) (qA Tryz.f121) 0 (qlU qrW 4 x)).run (qH3 2 155 qoY)
def qvZ(n:Nat):Ct Tryz.prog:=⟨121,qrW,.fb 155 qoY,qvY n,fun _ _ h=>qJu (B:=tab) (cs:=qqV n) (lo:=qu3 n) (i:=2) (g:=155) (caps:=qoY) Tryz.func121 (by kernel_rfl) qBB (by kernel_rfl) (qlw (qBA n) all_nil) h⟩
def qtH(n:Nat):CL Tryz.prog:=⟨[],[],0,nof⟩
def qoZ(n:Nat):Cw Tryz.prog:=mkW tab (qtH n) [] Tryz.func154 [.v (.t 1) T150,.obj (.t 0) true 125 5,.v (.c 0 0) T122,.row (.c 0 2) true T77 77,.row (.c 0 3) true T77 77,.mpi (.c 0 4) true T150 T3] 2 [[.v (.t 0) T3,.obj (.t 1) true 125 5,.v (.c 0 0) T122,.row (.c 0 2) true T77 77,.row (.c 0 3) true T77 77,.mpi (.c 0 4) true T150 T3]] (by kernel_rfl)
def qnI(n:Nat):CL Tryz.prog:=⟨[qvZ n],[qoZ n],0,nof⟩
def qnJ(n:Nat):LK Tryz.prog false:=mkG tab (qnI n) [] Tryz.f120 [true,false,true,false] 0 9 [10] qAe [.obj (.t 0) true 125 5,.v (.c 0 0) T122,.row (.c 0 2) true T77 77,.row (.c 0 3) true T77 77,.mpi (.c 0 4) true T150 T3,.obj (.t 2) false 117 1,.pal (.c 4 0) 0 0,.obj (.t 3) false 77 5,.v (.c 5 0) T77,.obj (.t 4) false 150 2,.v (.c 6 0) T150,.obj (.t 5) false 3 1,.v (.c 7 0) T3] [(.ret,[.obj (.t 0) true 125 5,.v (.c 0 0) T122,.row (.c 0 2) true T77 77,.row (.c 0 3) true T77 77,.mpi (.c 0 4) true T150 T3,.obj (.t 4) false 150 2,.v (.c 4 0) T150,.obj (.t 5) false 3 1,.v (.c 5 0) T3])] (by kernel_rfl)
def qor(n:Nat):Cw Tryz.prog:=mkW tab (qnI n) [qnJ n] Tryz.func120 [.v (.t 1) T77,.obj (.t 0) true 125 5,.v (.c 0 0) T122,.row (.c 0 2) true T77 77,.row (.c 0 3) true T77 77,.mpi (.c 0 4) true T150 T3] 2 [[.v (.t 0) T150,.v (.t 1) T3,.obj (.t 2) true 125 5,.v (.c 0 0) T122,.row (.c 0 2) true T77 77,.row (.c 0 3) true T77 77,.mpi (.c 0 4) true T150 T3]] (by kernel_rfl)
def ql7(n:Nat):CL Tryz.prog:=⟨[qvZ n],[qor n],0,nof⟩
def qpw(n:Nat):LK Tryz.prog false:=mkG tab (ql7 n) [] Tryz.f98 [true,true,false,true,false,false,true,true,false,false,true,true,true,true,true,false] 1 60 [61] qAe [.nilf (.t 2),.v (.t 17) T35,.v (.t 18) T3,.v (.t 19) T3,.obj (.t 7) false 117 1,.obj (.c 0 0) false 125 5,.v (.c 1 0) T122,.row (.c 1 2) false T77 77,.row (.c 1 3) false T77 77,.mpi (.c 1 4) false T150 T3,.obj (.t 9) false 77 5,.v (.c 5 0) T77] [] (by kernel_rfl)
def qpx(n:Nat):LK Tryz.prog false:=mkL tab (ql7 n) [qpw n] Tryz.f98 [true,true,false,true,false,false] 0 n [.nilf (.t 2),.v (.t 17) T35,.v (.t 18) T3,.v (.t 19) T3,.obj (.t 7) false 117 1,.obj (.c 0 0) false 125 5,.v (.c 1 0) T122,.row (.c 1 2) false T77 77,.row (.c 1 3) false T77 77,.mpi (.c 1 4) false T150 T3] [(.exit 0,[.obj (.t 7) false 117 1,.obj (.c 0 0) false 125 5,.v (.c 1 0) T122,.row (.c 1 2) false T77 77,.row (.c 1 3) false T77 77,.mpi (.c 1 4) false T150 T3])] (by kernel_rfl)
def qqw(n:Nat):Cw Tryz.prog:=mkW tab (ql7 n) [qpx n] Tryz.func98 [.v (.t 0) T122,.v (.t 1) T35,.nilf (.t 2)] 3 [[.obj (.t 0) false 125 5,.v (.c 0 0) T122,.row (.c 0 2) false T77 77,.row (.c 0 3) false T77 77,.mpi (.c 0 4) false T150 T3]] (by kernel_rfl)
def qAw(n:Nat):CL Tryz.prog:=⟨[],[qn6 n,qfY n,qlW n,qdE n,qdF n],1,nof⟩
def qv0(n:Nat):Ct Tryz.prog:=mkC tab (qAw n) [] Tryz.func99 [.d T35] [T35] (by kernel_rfl)
def qyC(n:Nat):CL Tryz.prog:=⟨[qn4 n,qmP n],[],0,nof⟩
def qp1(n:Nat):Cw Tryz.prog:=mkW tab (qyC n) [] Tryz.func95 [.v (.t 0) T150,.obj (.t 1) true 122 2,.v (.c 0 0) T122] 2 [[.v (.t 0) T4,.obj (.t 1) true 122 2,.v (.c 0 0) T122]] (by kernel_rfl)
def qgA(n:Nat):CL Tryz.prog:=⟨[],[qp1 n],0,nof⟩
def qgB(n:Nat):LK Tryz.prog false:=mkL tab (qgA n) [] Tryz.f118 [true,false,true,false,false] 0 n [.v (.t 0) T147,.v (.t 7) T3,.v (.t 8) T3,.fnc (.t 1) 95 [.box true 122 2],.v (.c 0 0) T122] [(.exit 0,[.fnc (.t 1) 95 [.box true 122 2],.v (.c 0 0) T122]),(.ret,[.v (.t 4) T3,.fnc (.t 1) 95 [.box true 122 2],.v (.c 0 0) T122])] (by kernel_rfl)
def qgQ(n:Nat):Cw Tryz.prog:=mkW tab (qgA n) [qgB n] Tryz.func118 [.v (.t 0) T147,.fnc (.t 1) 95 [.box true 122 2],.v (.c 0 0) T122] 2 [[.v (.t 0) T3,.obj (.t 1) true 122 2,.v (.c 0 0) T122]] (by kernel_rfl)
def qko(n:Nat):CL Tryz.prog:=⟨[],[qp1 n,qgQ n],0,nof⟩
def qgc(n:Nat):Cw Tryz.prog:=mkW tab (qko n) [] Tryz.func94 [.v (.t 0) T147,.fnc (.t 1) 95 [.box true 122 2],.v (.c 0 0) T122] 2 [[.v (.t 0) T4,.obj (.t 1) true 122 2,.v (.c 0 0) T122]] (by kernel_rfl)
def qAx(n:Nat):CL Tryz.prog:=⟨[qrU n,qv0 n],[qgc n,qqw n],4,nof⟩
def qv1(n:Nat):Cw Tryz.prog:=mkW tab (qAx n) [] Tryz.func64 [.v (.t 0) T34,.v (.t 1) T35,.v (.t 2) T147] 3 [[.v (.t 1) T24,.obj (.t 0) false 125 5,.v (.c 0 0) T122,.row (.c 0 2) false T77 77,.row (.c 0 3) false T77 77,.mpi (.c 0 4) false T150 T3],[.nilp (.t 0),.v (.t 1) T24]] (by kernel_rfl)
def qxH(n:Nat):CL Tryz.prog:=⟨[],[qv1 n,qxc n,qqv n],4,nof⟩
def qo0(n:Nat):Ct Tryz.prog:=mkC tab (qxH n) [] Tryz.func40 [.d T34,.d T35] [T22,T24] (by kernel_rfl)
end
section
end
end
end Go.Proofs.YtcjcacbhkoainaaGreatDoor
