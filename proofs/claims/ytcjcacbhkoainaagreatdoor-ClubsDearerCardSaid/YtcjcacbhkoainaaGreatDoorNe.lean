/- Texts DnA, DnB, DnC, DnD, DnF, DnG, DnH, DnI, DnE, DnJ in one. -/
import Derived.Test.YtcjcacbhkoainaaGreatDoorDnT
import Derived.Test.YtcjcacbhkoainaaGreatDoorNd
import Derived.Test.YtcjcacbhkoainaaGreatDoorKc
/- Printed: what functions of the program compute. -/
set_option linter.constructorNameAsVariable false
set_option linter.unusedSimpArgs false
set_option linter.unusedVariables false
set_option linter.unusedSectionVars false
namespace Go.Proofs.YtcjcacbhkoainaaGreatDoor
open Go Go.Proofs Go.RowKit
set_option maxRecDepth 20000
noncomputable section
section
def qrb(n:Nat):CL Tryz.prog:=⟨[],[],0,nof⟩
def qg1(n:Nat):Ct Tryz.prog:=mkC tab (qrb n) [] Tryz.func91 [.d T3,.d T3,.d T3] [T4] (by kernel_rfl)
def ql0(n:Nat):CL Tryz.prog:=⟨[qg1 n],[],0,nof⟩
def ql1(n:Nat):LK Tryz.prog false:=mkL tab (ql0 n) [] Tryz.f61 [true,false,true,false,false] 0 n [.v (.t 3) T3,.obj (.t 1) false 34 2,.v (.c 0 0) T34] [(.exit 0,[.obj (.t 1) false 34 2,.v (.c 0 0) T34]),(.ret,[.v (.t 2) T4])] (by kernel_rfl)
def qmf(n:Nat):Ct Tryz.prog:=mkC tab (ql0 n) [ql1 n] Tryz.func61 [.d T34] [T4] (by kernel_rfl)
def qkX(n:Nat):CL Tryz.prog:=⟨[qg1 n],[],0,nof⟩
def qkY(n:Nat):LK Tryz.prog false:=mkL tab (qkX n) [] Tryz.f92 [true,true,true,false,true,false,false] 0 n [.v (.t 5) T3,.v (.t 6) T3,.obj (.t 2) false 34 2,.v (.c 0 0) T34,.obj (.t 3) false 77 5,.v (.c 1 0) T77] [(.exit 0,[]),(.ret,[.v (.t 4) T4])] (by kernel_rfl)
def qlp(n:Nat):Ct Tryz.prog:=mkC tab (qkX n) [qkY n] Tryz.func92 [.d T34,.d T77] [T4] (by kernel_rfl)
def qjX(n:Nat):CL Tryz.prog:=⟨[qg1 n,qlp n],[],0,nof⟩
def qjY(n:Nat):LK Tryz.prog false:=mkL tab (qjX n) [] Tryz.f62 [true,false,true,false,false] 0 n [.v (.t 1) T35,.v (.t 5) T3,.obj (.t 2) false 34 2,.v (.c 0 0) T34] [(.exit 0,[.v (.t 1) T35]),(.ret,[.v (.t 4) T4])] (by kernel_rfl)
def qkx(n:Nat):Ct Tryz.prog:=mkC tab (qjX n) [qjY n] Tryz.func62 [.d T34,.d T35] [T4] (by kernel_rfl)
def qmT(n:Nat):CL Tryz.prog:=⟨[],[],0,nof⟩
def qmU(n:Nat):LK Tryz.prog false:=mkL tab (qmT n) [] Tryz.f93 [true,true,false,true,false,false] 0 n [.v (.t 5) T3,.obj (.t 2) false 77 5,.v (.c 0 0) T77,.obj (.t 3) false 77 5,.v (.c 1 0) T77] [(.exit 0,[]),(.ret,[.v (.t 4) T4])] (by kernel_rfl)
def qnk(n:Nat):Ct Tryz.prog:=mkC tab (qmT n) [qmU n] Tryz.func93 [.d T77,.d T77] [T4] (by kernel_rfl)
def qjG(n:Nat):CL Tryz.prog:=⟨[qnk n],[],0,nof⟩
def qmV(n:Nat):LK Tryz.prog false:=mkL tab (qjG n) [] Tryz.f63 [true,false,true,false,false,true,false,false,true,false,false] 1 n [.v (.t 0) T35,.v (.t 3) T3,.v (.t 4) T3] [(.exit 2,[.v (.t 0) T35,.v (.t 3) T3]),(.ret,[.v (.t 2) T4])] (by kernel_rfl)
def qmW(n:Nat):LK Tryz.prog false:=mkL tab (qjG n) [qmV n] Tryz.f63 [true,false,true,false,false] 0 n [.v (.t 0) T35,.v (.t 3) T3] [(.exit 0,[]),(.ret,[.v (.t 2) T4])] (by kernel_rfl)
def qnl(n:Nat):Ct Tryz.prog:=mkC tab (qjG n) [qmW n] Tryz.func63 [.d T35] [T4] (by kernel_rfl)
def qrH(n:Nat):CL Tryz.prog:=⟨[qmf n,qkx n,qnl n],[],0,nof⟩
def qnm(n:Nat):Ct Tryz.prog:=mkC tab (qrH n) [] Tryz.func36 [.d T34,.d T35] [T24] (by kernel_rfl)
end
section
def qvs(n:Nat):CL Tryz.prog:=⟨[],[],0,nof⟩
def qnn(n:Nat):Ct Tryz.prog:=mkC tab (qvs n) [] Tryz.func103 [.d T3] [T4] (by kernel_rfl)
def qwd(n:Nat):CL Tryz.prog:=⟨[qnn n],[],0,nof⟩
def qol(n:Nat):Ct Tryz.prog:=mkC tab (qwd n) [] Tryz.func137 [.d T3,.d T3] [T4] (by kernel_rfl)
def qtR(n:Nat):CL Tryz.prog:=⟨[qnn n],[],0,nof⟩
def qfW(n:Nat):Ct Tryz.prog:=mkC tab (qtR n) [] Tryz.func69 [.d T3,.d T3] [T3] (by kernel_rfl)
def qtS(n:Nat):CL Tryz.prog:=⟨[],[],0,nof⟩
def qtT(n:Nat):LK Tryz.prog false:=mkL tab (qtS n) [] Tryz.f65 [true,true,false,true,false,false] 0 n [.v (.t 6) T35,.v (.t 7) T3,.v (.t 8) T3,.row (.t 3) false T3 3] [(.exit 0,[.row (.t 3) false T3 3])] (by kernel_rfl)
def qu7(n:Nat):Cw Tryz.prog:=mkW tab (qtS n) [qtT n] Tryz.func65 [.v (.t 0) T35] 1 [[.row (.t 0) false T3 3]] (by kernel_rfl)
def qeH(n:Nat):CL Tryz.prog:=⟨[qol n],[],0,nof⟩
def qg2(n:Nat):LK Tryz.prog false:=mkL tab (qeH n) [] Tryz.f131 [true,false,false,true,false,false,true,false,false] 1 n [.v (.t 1) T3,.v (.t 2) T3,.v (.t 6) T3,.v (.t 7) T3,.row (.t 0) true T3 3] [(.exit 2,[.v (.t 1) T3,.v (.t 2) T3,.v (.t 6) T3,.row (.t 0) true T3 3])] (by kernel_rfl)
def qg3(n:Nat):LK Tryz.prog false:=mkL tab (qeH n) [qg2 n] Tryz.f131 [true,false,false] 0 n [.v (.t 1) T3,.v (.t 2) T3,.v (.t 6) T3,.row (.t 0) true T3 3] [(.exit 0,[.row (.t 0) true T3 3])] (by kernel_rfl)
def qho(n:Nat):Cw Tryz.prog:=mkW tab (qeH n) [qg3 n] Tryz.func131 [.v (.t 1) T3,.v (.t 2) T3,.row (.t 0) true T3 3] 3 [[.row (.t 0) true T3 3]] (by kernel_rfl)
def qtU(n:Nat):CL Tryz.prog:=⟨[],[],0,nof⟩
def qph(n:Nat):Ct Tryz.prog:=mkC tab (qtU n) [] Tryz.func141 [.d T133] [T3] (by kernel_rfl)
def qvt(n:Nat):CL Tryz.prog:=⟨[qph n],[],0,nof⟩
def qkZ(n:Nat):Ct Tryz.prog:=mkC tab (qvt n) [] Tryz.func101 [.d T57] [T3] (by kernel_rfl)
def qwe(n:Nat):CL Tryz.prog:=⟨[],[],0,nof⟩
def qgo(n:Nat):Ct Tryz.prog:=mkC tab (qwe n) [] Tryz.func119 [.d T3,.d T3,.d T3] [T4] (by kernel_rfl)
def quG(n:Nat):CL Tryz.prog:=⟨[qgo n],[],0,nof⟩
def qmC(n:Nat):Ct Tryz.prog:=mkC tab (quG n) [] Tryz.func96 [.d T122,.d T3] [T4] (by kernel_rfl)
def qs7(n:Nat):CL Tryz.prog:=⟨[qgo n],[],0,nof⟩
def qlq(n:Nat):Ct Tryz.prog:=mkC tab (qs7 n) [] Tryz.func97 [.d T122,.d T3] [T4] (by kernel_rfl)
def qnY(n:Nat):CL Tryz.prog:=⟨[qmC n,qlq n,qgo n],[],0,nof⟩
def qnZ(n:Nat):LK Tryz.prog false:=mkL tab (qnY n) [] Tryz.f169 [true,true,false,true,false,false] 0 n [.v (.t 5) T3,.v (.t 8) T75,.v (.t 9) T3,.v (.t 10) T3,.obj (.t 2) false 122 2,.v (.c 0 0) T122] [(.exit 0,[]),(.ret,[.v (.t 4) T4])] (by kernel_rfl)
def qoN(n:Nat):Ct Tryz.prog:=mkC tab (qnY n) [qnZ n] Tryz.func169 [.d T122,.d T75] [T4] (by kernel_rfl)
def qrI(n:Nat):CL Tryz.prog:=⟨[qgo n,qoN n],[],0,nof⟩
def qno(n:Nat):Ct Tryz.prog:=mkC tab (qrI n) [] Tryz.func148 [.d T122,.d T77] [T4] (by kernel_rfl)
def qsW(n:Nat):CL Tryz.prog:=⟨[],[],0,nof⟩
def qsX(n:Nat):LK Tryz.prog false:=mkL tab (qsW n) [] Tryz.f130 [true,true,false,true,false,false] 0 n [.v (.t 3) T3,.v (.t 6) T22,.v (.t 7) T3,.v (.t 8) T3] [(.exit 0,[.v (.t 3) T3]),(.ret,[.v (.t 2) T3])] (by kernel_rfl)
def qnp(n:Nat):Ct Tryz.prog:=mkC tab (qsW n) [qsX n] Tryz.func130 [.d T22] [T3] (by kernel_rfl)
def qsY(n:Nat):CL Tryz.prog:=⟨[],[],0,nof⟩
def qsZ(n:Nat):LK Tryz.prog false:=mkL tab (qsY n) [] Tryz.f149 [true,false,true,false,false] 0 n [.v (.t 0) T35,.v (.t 5) T35,.v (.t 6) T3,.v (.t 7) T3] [(.exit 0,[]),(.ret,[.v (.t 2) T4])] (by kernel_rfl)
def qtV(n:Nat):Ct Tryz.prog:=mkC tab (qsY n) [qsZ n] Tryz.func149 [.d T35] [T4] (by kernel_rfl)
def qnq(n:Nat):CL Tryz.prog:=⟨[],[],0,nof⟩
def qnr(n:Nat):LK Tryz.prog false:=mkL tab (qnq n) [] Tryz.f31 [true,true,false,true,false,false] 0 n [.v (.t 0) T35,.v (.t 4) T3,.row (.t 3) false T77 77] [(.exit 0,[.row (.t 3) false T77 77])] (by kernel_rfl)
def qkK(n:Nat):Ct Tryz.prog:=mkC tab (qnq n) [qnr n] Tryz.func31 [.d T35] [T35] (by kernel_rfl)
def qpA(n:Nat):CL Tryz.prog:=⟨[],[],0,nof⟩
def qhU(n:Nat):Ct Tryz.prog:=mkC tab (qpA n) [] Tryz.func30 [.d T34] [T34] (by kernel_rfl)
def qn0(n:Nat):CL Tryz.prog:=⟨[],[],0,nof⟩
def qn1(n:Nat):LK Tryz.prog false:=mkL tab (qn0 n) [] Tryz.f55 [true,false,true,false,false] 0 n [.v (.t 1) T35,.v (.t 5) T3,.obj (.t 2) false 34 2,.v (.c 0 0) T34] [(.exit 0,[.v (.t 1) T35,.obj (.t 2) false 34 2,.v (.c 0 0) T34]),(.ret,[.v (.t 4) T4])] (by kernel_rfl)
def qoO(n:Nat):Ct Tryz.prog:=mkC tab (qn0 n) [qn1 n] Tryz.func55 [.d T34,.d T35] [T4] (by kernel_rfl)
def qqp(n:Nat):CL Tryz.prog:=⟨[],[],0,nof⟩
def qrc(n:Nat):Ct Tryz.prog:=mkC tab (qqp n) [] Tryz.func43 [] [T34,T35] (by kernel_rfl)
end
section
def qwf(n:Nat):CL Tryz.prog:=⟨[qfW n,qnp n],[],0,nof⟩
def qlQ(n:Nat):Ct Tryz.prog:=mkC tab (qwf n) [] Tryz.func129 [.d T77,.d T77] [T3] (by kernel_rfl)
def qtW(n:Nat):CL Tryz.prog:=⟨[],[],0,nof⟩
def ql9(n:Nat):Cw Tryz.prog:=mkW tab (qtW n) [] Tryz.func127 [.v (.t 0) T77,.obj (.t 1) true 77 5,.v (.c 0 0) T77] 2 [[.v (.t 0) T4,.obj (.t 1) true 77 5,.v (.c 0 0) T77]] (by kernel_rfl)
def qeK(n:Nat):CL Tryz.prog:=⟨[],[ql9 n],0,nof⟩
def qeL(n:Nat):LK Tryz.prog false:=mkL tab (qeK n) [] Tryz.f33 [true,false,true,false,false] 0 n [.v (.t 0) T35,.v (.t 7) T3,.v (.t 8) T3,.fnc (.t 1) 127 [.box true 77 5],.v (.c 0 0) T77] [(.exit 0,[.fnc (.t 1) 127 [.box true 77 5],.v (.c 0 0) T77]),(.ret,[.v (.t 4) T3,.fnc (.t 1) 127 [.box true 77 5],.v (.c 0 0) T77])] (by kernel_rfl)
def qO(n:Nat):Cw Tryz.prog:=mkW tab (qeK n) [qeL n] Tryz.func33 [.v (.t 0) T35,.fnc (.t 1) 127 [.box true 77 5],.v (.c 0 0) T77] 2 [[.v (.t 0) T3,.obj (.t 1) true 77 5,.v (.c 0 0) T77]] (by kernel_rfl)
def qhK(n:Nat):CL Tryz.prog:=⟨[],[qO n,ql9 n],0,nof⟩
def qcx(n:Nat):Cw Tryz.prog:=mkW tab (qhK n) [] Tryz.func126 [.v (.t 0) T35,.fnc (.t 1) 127 [.box true 77 5],.v (.c 0 0) T77] 2 [[.v (.t 0) T4,.obj (.t 1) true 77 5,.v (.c 0 0) T77]] (by kernel_rfl)
def qvu(n:Nat):CL Tryz.prog:=⟨[],[qcx n],0,nof⟩
def qns(n:Nat):Cw Tryz.prog:=mkW tab (qvu n) [] Tryz.func125 [.v (.t 0) T77,.obj (.t 1) true 35 1,.v (.c 0 0) T35] 2 [[.v (.t 0) T4,.obj (.t 1) true 35 1,.v (.c 0 0) T35]] (by kernel_rfl)
def qbM(n:Nat):CL Tryz.prog:=⟨[qlQ n],[],0,nof⟩
def qdq(n:Nat):LK Tryz.prog false:=mkL tab (qbM n) [] Tryz.f173 [true,false,false,true,false,false,true,false,false] 1 n [.v (.t 1) T3,.v (.t 2) T3,.fn (.t 3) 129 [] [],.v (.t 8) T3,.v (.t 9) T3,.row (.t 0) true T77 77] [(.exit 2,[.v (.t 1) T3,.v (.t 2) T3,.fn (.t 3) 129 [] [],.v (.t 8) T3,.row (.t 0) true T77 77])] (by kernel_rfl)
def qdr(n:Nat):LK Tryz.prog false:=mkL tab (qbM n) [qdq n] Tryz.f173 [true,false,false] 0 n [.v (.t 1) T3,.v (.t 2) T3,.fn (.t 3) 129 [] [],.v (.t 8) T3,.row (.t 0) true T77 77] [(.exit 0,[.row (.t 0) true T77 77])] (by kernel_rfl)
def qbR(n:Nat):Cw Tryz.prog:=mkW tab (qbM n) [qdr n] Tryz.func173 [.v (.t 1) T3,.v (.t 2) T3,.fn (.t 3) 129 [] [],.row (.t 0) true T77 77] 4 [[.row (.t 0) true T77 77]] (by kernel_rfl)
def quH(n:Nat):CL Tryz.prog:=⟨[qfW n,qnp n],[],0,nof⟩
def qp2(n:Nat):Ct Tryz.prog:=mkC tab (quH n) [] Tryz.func172 [.d T84,.d T84] [T3] (by kernel_rfl)
def qfa(n:Nat):CL Tryz.prog:=⟨[qp2 n],[],0,nof⟩
def qfb(n:Nat):LK Tryz.prog false:=mkL tab (qfa n) [] Tryz.f171 [true,false,true,false,false] 0 n [.v (.t 0) T75,.v (.t 1) T75,.fn (.t 2) 172 [] [],.v (.t 11) T75,.v (.t 12) T3,.v (.t 13) T3] [(.exit 0,[.v (.t 0) T75,.v (.t 1) T75]),(.ret,[.v (.t 6) T3])] (by kernel_rfl)
def qfo(n:Nat):Ct Tryz.prog:=mkC tab (qfa n) [qfb n] Tryz.func171 [.d T75,.d T75,.fn 172 [] []] [T3] (by kernel_rfl)
def qwg(n:Nat):CL Tryz.prog:=⟨[qfW n,qnp n,qfo n],[],0,nof⟩
def qjH(n:Nat):Ct Tryz.prog:=mkC tab (qwg n) [] Tryz.func157 [.d T77,.d T77] [T3] (by kernel_rfl)
def qbN(n:Nat):CL Tryz.prog:=⟨[qjH n],[],0,nof⟩
def qds(n:Nat):LK Tryz.prog false:=mkL tab (qbN n) [] Tryz.f173 [true,false,false,true,false,false,true,false,false] 1 n [.v (.t 1) T3,.v (.t 2) T3,.fn (.t 3) 157 [] [],.v (.t 8) T3,.v (.t 9) T3,.row (.t 0) true T77 77] [(.exit 2,[.v (.t 1) T3,.v (.t 2) T3,.fn (.t 3) 157 [] [],.v (.t 8) T3,.row (.t 0) true T77 77])] (by kernel_rfl)
def qdt(n:Nat):LK Tryz.prog false:=mkL tab (qbN n) [qds n] Tryz.f173 [true,false,false] 0 n [.v (.t 1) T3,.v (.t 2) T3,.fn (.t 3) 157 [] [],.v (.t 8) T3,.row (.t 0) true T77 77] [(.exit 0,[.row (.t 0) true T77 77])] (by kernel_rfl)
def qbS(n:Nat):Cw Tryz.prog:=mkW tab (qbN n) [qdt n] Tryz.func173 [.v (.t 1) T3,.v (.t 2) T3,.fn (.t 3) 157 [] [],.row (.t 0) true T77 77] 4 [[.row (.t 0) true T77 77]] (by kernel_rfl)
def qtX(n:Nat):CL Tryz.prog:=⟨[qgo n],[],0,nof⟩
def qma(n:Nat):Ct Tryz.prog:=mkC tab (qtX n) [] Tryz.func146 [.d T129] [T4] (by kernel_rfl)
def qfv(n:Nat):CL Tryz.prog:=⟨[qma n],[],0,nof⟩
def qfw(n:Nat):LK Tryz.prog false:=mkL tab (qfv n) [] Tryz.f168 [true,false,true,false,false] 0 n [.v (.t 0) T32,.fn (.t 1) 146 [] [],.v (.t 7) T3,.v (.t 8) T3] [(.exit 0,[]),(.ret,[.v (.t 4) T3])] (by kernel_rfl)
def qfC(n:Nat):Ct Tryz.prog:=mkC tab (qfv n) [qfw n] Tryz.func168 [.d T32,.fn 146 [] []] [T3] (by kernel_rfl)
def qiW(n:Nat):CL Tryz.prog:=⟨[qma n,qfC n],[],0,nof⟩
def qfc(n:Nat):Ct Tryz.prog:=mkC tab (qiW n) [] Tryz.func145 [.d T32,.fn 146 [] []] [T4] (by kernel_rfl)
def qvv(n:Nat):CL Tryz.prog:=⟨[qgo n,qfc n],[],0,nof⟩
def qqV(n:Nat):Ct Tryz.prog:=mkC tab (qvv n) [] Tryz.func106 [.d T122] [T4] (by kernel_rfl)
def qtY(n:Nat):CL Tryz.prog:=⟨[qjH n],[],0,nof⟩
def qpi(n:Nat):Ct Tryz.prog:=mkC tab (qtY n) [] Tryz.func159 [.d T77,.d T77] [T4] (by kernel_rfl)
end
section
def qfL(n:Nat):CL Tryz.prog:=⟨[],[],0,fun _=>false⟩
def qiX(n:Nat):Nat→St→PT (DEx×St):=fun _ _=>.fail
theorem qnP(n:Nat):qbh (qfL n).c (qt Tryz.f170) 0=[]:=by kernel_rfl
theorem qnQ:Tryz.f170.body=some (qt Tryz.f170):=by kernel_rfl
abbrev qfM:List It:=[.raw (.t 0),.v (.t 1) T3]
abbrev qfz:List (List It):=[[.row (.t 0) false T77 77]]
def qi(n:Nat)(x:qf qfM):Option (qby qfz):=runW tab (qfL n) (qiX n) (qt Tryz.f170) qfM 2 27 [.tmp 4] qfz x
def qnR(n:Nat):Cw Tryz.prog:=⟨170,2,qfM,1,qfz,qi n,fun _ _ h=>qme (B:=tab) (cs:=qfL n) (lo:=qiX n) (rs:=[.tmp 4]) Tryz.func170 (by kernel_rfl) qnQ (by kernel_rfl) (by decide) (qka (qnP n) all_nil) h⟩
def qgp(n:Nat):CL Tryz.prog:=⟨[],[qnR n],1,nof⟩
def qjI(n:Nat):LK Tryz.prog false:=mkL tab (qgp n) [] Tryz.f156 [true,true,false,true,false,false] 0 n [.v (.t 0) T190,.v (.t 3) T3,.v (.t 9) T190,.v (.t 10) T3,.v (.t 11) T3] [(.exit 0,[.v (.t 0) T190,.v (.t 3) T3])] (by kernel_rfl)
def qjJ(n:Nat):LK Tryz.prog false:=mkL tab (qgp n) [] Tryz.f156 [true,true,true,true,false,true,false,false] 1 n [.v (.t 25) T190,.v (.t 26) T3,.v (.t 27) T3,.row (.t 6) false T77 77] [(.exit 2,[.row (.t 6) false T77 77])] (by kernel_rfl)
def qjZ(n:Nat):Cw Tryz.prog:=mkW tab (qgp n) [qjI n,qjJ n] Tryz.func156 [.v (.t 0) T190] 1 [[.row (.t 0) false T77 77]] (by kernel_rfl)
abbrev ql:List It:=[.v (.t 1) T3,.v (.t 2) T3,.v (.t 3) T3,.fn (.t 4) 157 [] [],.row (.t 0) true T77 77]
abbrev qj:List (List It):=[[.row (.t 0) true T77 77]]
abbrev qc:Type:={g:qf ql→Option (qby qj) // qqS Tryz.prog 160 5 ql 0 qj g}
def qD(n:Nat)(g:qc):CL Tryz.prog:=⟨[qjH n],[qbR n,qbS n,⟨160,5,ql,0,qj,g.1,g.2⟩],0,fun _=>false⟩
def qd4(n:Nat)(g:qc):Nat→St→PT (DEx×St):=fun _ _=>.fail
abbrev qT:List It:=[.v (.t 1) T3,.v (.t 2) T3,.v (.t 3) T3,.fn (.t 4) 157 [] [],.v (.t 10) T4,.v (.t 11) T4,.row (.t 0) true T77 77]
abbrev qbn:List (DEx×List It):=[(.ret,[.row (.t 0) true T77 77])]
def qed(n:Nat)(g:qc)(rec:qf qT→Option (qbz qbn))(s:qf qT):Option (qbz qbn):=(qfK tab (qD n g) (qd4 n g) (subC [true,true,false,false] (qt Tryz.f160)) 1 (mkS qT 148 s)).run (Lp.leaf 148 qT qbn rec)
def qcl(n:Nat)(g:qc):Lp:=⟨148,qT,qbn,qb n (qed n g)⟩
theorem qhL(n:Nat)(g:qc):qbh (qD n g).c (subC [true,true,false,false] (qt Tryz.f160)) 1=[]:=by kernel_rfl
theorem qhc(n:Nat)(g:qc)(st:St)(r:DEx×St)(h:((qcl n g).go st).Is r):DA Tryz.prog false (.loop (subC [true,true,false,false] (qt Tryz.f160))) st r:=Lp.ok (L:=qcl n g) (B:=tab) (cs:=qD n g) (lo:=qd4 n g) (id:=0) rfl (qka (qhL n g) all_nil) (fun _ _=>rfl) h
def qee(n:Nat)(g:qc):Nat→St→PT (DEx×St):=fun k st=>match k with
 | 0=>(qcl n g).go st
 | _=>.fail
theorem qhV(n:Nat)(g:qc):qbh (qD n g).c (qt Tryz.f160) 0=[(0,.loop (subC [true,true,false,false] (qt Tryz.f160)))]:=by kernel_rfl
theorem qhW:Tryz.f160.body=some (qt Tryz.f160):=by kernel_rfl
def qcm(n:Nat)(g:qc)(x:qf ql):Option (qby qj):=runW tab (qD n g) (qee n g) (qt Tryz.f160) ql 5 148 [] qj x
theorem qhM(n:Nat)(g:qc):qqS Tryz.prog 160 5 ql 0 qj (qcm n g):=fun _ _ h=>qme (B:=tab) (cs:=qD n g) (lo:=qee n g) (rs:=[]) Tryz.func160 (by kernel_rfl) qhW (by kernel_rfl) (by decide) (qka (qhV n g) (all_cons (fun st r h=>qhc n g st r h) all_nil)) h
def qz(n:Nat):Nat→qc
 | 0=>⟨fun _=>none,fun _ _ h=>by cases h⟩
 | k+1=>⟨qcm n (qz n k),qhM n (qz n k)⟩
def qes(n:Nat)(x:qf ql):Option (qby qj):=(qz n n).1 x
def qet(n:Nat):Cw Tryz.prog:=⟨160,5,ql,0,qj,qes n,(qz n n).2⟩
def qjs(n:Nat):CL Tryz.prog:=⟨[qkZ n,qjH n],[qet n],0,nof⟩
def qdc(n:Nat):Cw Tryz.prog:=mkW tab (qjs n) [] Tryz.func128 [.fn (.t 1) 157 [] [],.row (.t 0) true T77 77] 2 [[.row (.t 0) true T77 77]] (by kernel_rfl)
abbrev qm:List It:=[.v (.t 1) T3,.v (.t 2) T3,.v (.t 3) T3,.fn (.t 4) 129 [] [],.row (.t 0) true T77 77]
abbrev qk:List (List It):=[[.row (.t 0) true T77 77]]
abbrev qd:Type:={g:qf qm→Option (qby qk) // qqS Tryz.prog 160 5 qm 0 qk g}
def qE(n:Nat)(g:qd):CL Tryz.prog:=⟨[qlQ n],[qbR n,qbS n,⟨160,5,qm,0,qk,g.1,g.2⟩],0,fun _=>false⟩
def qd5(n:Nat)(g:qd):Nat→St→PT (DEx×St):=fun _ _=>.fail
abbrev qU:List It:=[.v (.t 1) T3,.v (.t 2) T3,.v (.t 3) T3,.fn (.t 4) 129 [] [],.v (.t 10) T4,.v (.t 11) T4,.row (.t 0) true T77 77]
abbrev qbo:List (DEx×List It):=[(.ret,[.row (.t 0) true T77 77])]
def qef(n:Nat)(g:qd)(rec:qf qU→Option (qbz qbo))(s:qf qU):Option (qbz qbo):=(qfK tab (qE n g) (qd5 n g) (subC [true,true,false,false] (qt Tryz.f160)) 1 (mkS qU 148 s)).run (Lp.leaf 148 qU qbo rec)
def qcn(n:Nat)(g:qd):Lp:=⟨148,qU,qbo,qb n (qef n g)⟩
theorem qhN(n:Nat)(g:qd):qbh (qE n g).c (subC [true,true,false,false] (qt Tryz.f160)) 1=[]:=by kernel_rfl
theorem qhd(n:Nat)(g:qd)(st:St)(r:DEx×St)(h:((qcn n g).go st).Is r):DA Tryz.prog false (.loop (subC [true,true,false,false] (qt Tryz.f160))) st r:=Lp.ok (L:=qcn n g) (B:=tab) (cs:=qE n g) (lo:=qd5 n g) (id:=0) rfl (qka (qhN n g) all_nil) (fun _ _=>rfl) h
def qeg(n:Nat)(g:qd):Nat→St→PT (DEx×St):=fun k st=>match k with
 | 0=>(qcn n g).go st
 | _=>.fail
theorem qhX(n:Nat)(g:qd):qbh (qE n g).c (qt Tryz.f160) 0=[(0,.loop (subC [true,true,false,false] (qt Tryz.f160)))]:=by kernel_rfl
theorem qhY:Tryz.f160.body=some (qt Tryz.f160):=by kernel_rfl
def qco(n:Nat)(g:qd)(x:qf qm):Option (qby qk):=runW tab (qE n g) (qeg n g) (qt Tryz.f160) qm 5 148 [] qk x
theorem qhO(n:Nat)(g:qd):qqS Tryz.prog 160 5 qm 0 qk (qco n g):=fun _ _ h=>qme (B:=tab) (cs:=qE n g) (lo:=qeg n g) (rs:=[]) Tryz.func160 (by kernel_rfl) qhY (by kernel_rfl) (by decide) (qka (qhX n g) (all_cons (fun st r h=>qhd n g st r h) all_nil)) h
def qA(n:Nat):Nat→qd
 | 0=>⟨fun _=>none,fun _ _ h=>by cases h⟩
 | k+1=>⟨qco n (qA n k),qhO n (qA n k)⟩
def qeu(n:Nat)(x:qf qm):Option (qby qk):=(qA n n).1 x
def qhZ(n:Nat):Cw Tryz.prog:=⟨160,5,qm,0,qk,qeu n,(qA n n).2⟩
def qjt(n:Nat):CL Tryz.prog:=⟨[qkZ n,qlQ n],[qet n,qhZ n],0,nof⟩
def qdd(n:Nat):Cw Tryz.prog:=mkW tab (qjt n) [] Tryz.func128 [.fn (.t 1) 129 [] [],.row (.t 0) true T77 77] 2 [[.row (.t 0) true T77 77]] (by kernel_rfl)
def qcp(n:Nat):CL Tryz.prog:=⟨[qpi n],[],0,nof⟩
def qeh(n:Nat):LK Tryz.prog false:=mkL tab (qcp n) [] Tryz.f158 [true,true,false,true,false,false,true,false,false,true,false,true,false,true,false,false] 1 n [.fn (.t 1) 159 [] [],.v (.t 5) T3,.v (.t 7) T3,.row (.t 0) true T77 77,.sub (.t 6) 0] [(.exit 2,[.v (.t 5) T3,.row (.t 0) true T77 77])] (by kernel_rfl)
def qei(n:Nat):LK Tryz.prog false:=mkL tab (qcp n) [qeh n] Tryz.f158 [true,true,false,true,false,false] 0 n [.fn (.t 1) 159 [] [],.v (.t 5) T3,.row (.t 0) true T77 77] [(.exit 0,[.row (.t 0) true T77 77]),(.ret,[.row (.t 0) true T77 77,.sub (.t 4) 0])] (by kernel_rfl)
def qev(n:Nat):Cw Tryz.prog:=mkW tab (qcp n) [qei n] Tryz.func158 [.fn (.t 1) 159 [] [],.row (.t 0) true T77 77] 2 [[.row (.t 1) true T77 77,.sub (.t 0) 0]] (by kernel_rfl)
def qew(n:Nat):CL Tryz.prog:=⟨[],[qns n],0,nof⟩
def qex(n:Nat):LK Tryz.prog false:=mkL tab (qew n) [] Tryz.f33 [true,false,true,false,false] 0 n [.v (.t 7) T3,.v (.t 8) T3,.row (.t 0) true T77 77,.fnc (.t 1) 125 [.box true 35 1],.v (.c 1 0) T35] [(.exit 0,[.row (.t 0) true T77 77,.fnc (.t 1) 125 [.box true 35 1],.v (.c 1 0) T35]),(.ret,[.v (.t 4) T3,.row (.t 0) true T77 77,.fnc (.t 1) 125 [.box true 35 1],.v (.c 1 0) T35])] (by kernel_rfl)
def qV(n:Nat):Cw Tryz.prog:=mkW tab (qew n) [qex n] Tryz.func33 [.row (.t 0) true T77 77,.fnc (.t 1) 125 [.box true 35 1],.v (.c 1 0) T35] 2 [[.v (.t 0) T3,.row (.t 1) true T77 77,.obj (.t 2) true 35 1,.v (.c 1 0) T35]] (by kernel_rfl)
def qeZ(n:Nat):CL Tryz.prog:=⟨[],[qV n,qO n,qns n],0,nof⟩
def qe0(n:Nat):LK Tryz.prog false:=mkL tab (qeZ n) [] Tryz.f123 [true,true,true,false,true,false,false] 0 n [.v (.t 5) T3,.v (.t 6) T3,.row (.t 0) true T77 77,.fnc (.t 1) 125 [.box true 35 1],.v (.c 1 0) T35] [(.exit 0,[.v (.t 5) T3,.row (.t 0) true T77 77,.fnc (.t 1) 125 [.box true 35 1],.v (.c 1 0) T35])] (by kernel_rfl)
def qfd(n:Nat):Cw Tryz.prog:=mkW tab (qeZ n) [qe0 n] Tryz.func123 [.row (.t 0) true T77 77,.fnc (.t 1) 125 [.box true 35 1],.v (.c 1 0) T35] 2 [[.row (.t 1) true T77 77,.obj (.t 2) true 35 1,.v (.c 1 0) T35,.sub (.t 0) 0]] (by kernel_rfl)
abbrev qbb:List It:=[.v (.t 1) T3,.v (.t 2) T3,.v (.t 3) T3,.row (.t 0) true T3 3]
abbrev q8:List (List It):=[[.row (.t 0) true T3 3]]
abbrev qq:Type:={g:qf qbb→Option (qby q8) // qqS Tryz.prog 100 4 qbb 0 q8 g}
def qcf(n:Nat)(g:qq):CL Tryz.prog:=⟨[qol n],[qho n,⟨100,4,qbb,0,q8,g.1,g.2⟩],0,fun _=>false⟩
def qiY(n:Nat)(g:qq):Nat→St→PT (DEx×St):=fun _ _=>.fail
abbrev qcW:List It:=[.v (.t 1) T3,.v (.t 2) T3,.v (.t 3) T3,.v (.t 8) T4,.v (.t 9) T4,.row (.t 0) true T3 3]
abbrev qeq:List (DEx×List It):=[(.ret,[.row (.t 0) true T3 3])]
def qji(n:Nat)(g:qq)(rec:qf qcW→Option (qbz qeq))(s:qf qcW):Option (qbz qeq):=(qfK tab (qcf n g) (qiY n g) (subC [true,true,false,false] (qt Tryz.f100)) 1 (mkS qcW 134 s)).run (Lp.leaf 134 qcW qeq rec)
def qf6(n:Nat)(g:qq):Lp:=⟨134,qcW,qeq,qb n (qji n g)⟩
theorem qnS(n:Nat)(g:qq):qbh (qcf n g).c (subC [true,true,false,false] (qt Tryz.f100)) 1=[]:=by kernel_rfl
theorem qmD(n:Nat)(g:qq)(st:St)(r:DEx×St)(h:((qf6 n g).go st).Is r):DA Tryz.prog false (.loop (subC [true,true,false,false] (qt Tryz.f100))) st r:=Lp.ok (L:=qf6 n g) (B:=tab) (cs:=qcf n g) (lo:=qiY n g) (id:=0) rfl (qka (qnS n g) all_nil) (fun _ _=>rfl) h
def qjj(n:Nat)(g:qq):Nat→St→PT (DEx×St):=fun k st=>match k with
 | 0=>(qf6 n g).go st
 | _=>.fail
theorem qom(n:Nat)(g:qq):qbh (qcf n g).c (qt Tryz.f100) 0=[(0,.loop (subC [true,true,false,false] (qt Tryz.f100)))]:=by kernel_rfl
theorem qon:Tryz.f100.body=some (qt Tryz.f100):=by kernel_rfl
def qf7(n:Nat)(g:qq)(x:qf qbb):Option (qby q8):=runW tab (qcf n g) (qjj n g) (qt Tryz.f100) qbb 4 134 [] q8 x
theorem qnT(n:Nat)(g:qq):qqS Tryz.prog 100 4 qbb 0 q8 (qf7 n g):=fun _ _ h=>qme (B:=tab) (cs:=qcf n g) (lo:=qjj n g) (rs:=[]) Tryz.func100 (by kernel_rfl) qon (by kernel_rfl) (by decide) (qka (qom n g) (all_cons (fun st r h=>qmD n g st r h) all_nil)) h
def qbK(n:Nat):Nat→qq
 | 0=>⟨fun _=>none,fun _ _ h=>by cases h⟩
 | k+1=>⟨qf7 n (qbK n k),qnT n (qbK n k)⟩
def qjK(n:Nat)(x:qf qbb):Option (qby q8):=(qbK n n).1 x
def qoo(n:Nat):Cw Tryz.prog:=⟨100,4,qbb,0,q8,qjK n,(qbK n n).2⟩
def qs8(n:Nat):CL Tryz.prog:=⟨[qkZ n],[qoo n],0,nof⟩
def qoP(n:Nat):Cw Tryz.prog:=mkW tab (qs8 n) [] Tryz.func66 [.row (.t 0) true T3 3] 1 [[.row (.t 0) true T3 3]] (by kernel_rfl)
def quI(n:Nat):CL Tryz.prog:=⟨[],[qdc n,qdd n,qjZ n,qev n],1,nof⟩
def qmE(n:Nat):Cw Tryz.prog:=mkW tab (quI n) [] Tryz.func122 [.v (.t 0) T190] 1 [[.row (.t 0) false T77 77]] (by kernel_rfl)
def qpB(n:Nat):CL Tryz.prog:=⟨[qno n],[],0,nof⟩
def qh0(n:Nat):Cw Tryz.prog:=mkW tab (qpB n) [] Tryz.func147 [.v (.t 0) T77,.obj (.t 1) true 122 2,.v (.c 0 0) T122] 2 [[.v (.t 0) T4,.obj (.t 1) true 122 2,.v (.c 0 0) T122]] (by kernel_rfl)
def qdJ(n:Nat):CL Tryz.prog:=⟨[],[qh0 n],0,nof⟩
def qdK(n:Nat):LK Tryz.prog false:=mkL tab (qdJ n) [] Tryz.f33 [true,false,true,false,false] 0 n [.v (.t 0) T35,.v (.t 7) T3,.v (.t 8) T3,.fnc (.t 1) 147 [.box true 122 2],.v (.c 0 0) T122] [(.exit 0,[.fnc (.t 1) 147 [.box true 122 2],.v (.c 0 0) T122]),(.ret,[.v (.t 4) T3,.fnc (.t 1) 147 [.box true 122 2],.v (.c 0 0) T122])] (by kernel_rfl)
def qbc(n:Nat):Cw Tryz.prog:=mkW tab (qdJ n) [qdK n] Tryz.func33 [.v (.t 0) T35,.fnc (.t 1) 147 [.box true 122 2],.v (.c 0 0) T122] 2 [[.v (.t 0) T3,.obj (.t 1) true 122 2,.v (.c 0 0) T122]] (by kernel_rfl)
def qgq(n:Nat):CL Tryz.prog:=⟨[],[qV n,qO n,qbc n,qh0 n],0,nof⟩
def qdu(n:Nat):Cw Tryz.prog:=mkW tab (qgq n) [] Tryz.func126 [.v (.t 0) T35,.fnc (.t 1) 147 [.box true 122 2],.v (.c 0 0) T122] 2 [[.v (.t 0) T4,.obj (.t 1) true 122 2,.v (.c 0 0) T122]] (by kernel_rfl)
def qrd(n:Nat):CL Tryz.prog:=⟨[qtV n],[qmE n,qcx n,qdu n],1,nof⟩
def qmX(n:Nat):Ct Tryz.prog:=mkC tab (qrd n) [] Tryz.func107 [.d T122,.d T35] [T24] (by kernel_rfl)
def qxZ(n:Nat):CL Tryz.prog:=⟨[qqV n,qmX n],[],0,nof⟩
def qp3(n:Nat):Ct Tryz.prog:=mkC tab (qxZ n) [] Tryz.func74 [.d T34,.d T35] [T24] (by kernel_rfl)
end
section
def qfA(n:Nat):CL Tryz.prog:=⟨[],[],0,fun _=>false⟩
def qiv(n:Nat):Nat→St→PT (DEx×St):=fun _ _=>.fail
theorem qnt(n:Nat):qbh (qfA n).c (qt Tryz.f124) 0=[]:=by kernel_rfl
theorem qnu:Tryz.f124.body=some (qt Tryz.f124):=by kernel_rfl
abbrev qfB:List It:=[.raw (.t 0)]
abbrev qfr:List (List It):=[[.row (.t 0) false T77 77]]
def qd6(n:Nat)(x:qf qfB):Option (qby qfr):=runW tab (qfA n) (qiv n) (qt Tryz.f124) qfB 1 8 [.tmp 2] qfr x
def qnv(n:Nat):Cw Tryz.prog:=⟨124,1,qfB,1,qfr,qd6 n,fun _ _ h=>qme (B:=tab) (cs:=qfA n) (lo:=qiv n) (rs:=[.tmp 2]) Tryz.func124 (by kernel_rfl) qnu (by kernel_rfl) (by decide) (qka (qnt n) all_nil) h⟩
def qgK(n:Nat):CL Tryz.prog:=⟨[],[],0,fun _=>false⟩
def qj0(n:Nat):Nat→St→PT (DEx×St):=fun _ _=>.fail
theorem qo6(n:Nat):qbh (qgK n).c (qt Tryz.f124) 0=[]:=by kernel_rfl
theorem qo7:Tryz.f124.body=some (qt Tryz.f124):=by kernel_rfl
abbrev qgL:List It:=[.v (.t 0) T35]
abbrev qeI:List (List It):=[[.row (.t 0) false T77 77]]
def qfi(n:Nat)(x:qf qgL):Option (qby qeI):=runW tab (qgK n) (qj0 n) (qt Tryz.f124) qgL 1 8 [.tmp 2] qeI x
def qo8(n:Nat):Cw Tryz.prog:=⟨124,1,qgL,1,qeI,qfi n,fun _ _ h=>qme (B:=tab) (cs:=qgK n) (lo:=qj0 n) (rs:=[.tmp 2]) Tryz.func124 (by kernel_rfl) qo7 (by kernel_rfl) (by decide) (qka (qo6 n) all_nil) h⟩
end
theorem qo9(n:Nat)(c:Nat):qd6 n (.slice none 0 c,())=some ([],()):=by kernel_rfl
theorem qpa(n:Nat)(a:Addr)(c:Nat):qd6 n (.slice (some a) 0 c,())=some ([],()):=by kernel_rfl
def qky(n:Nat):Cw Tryz.prog:=qAb 124 T77 qeI (qd6 n) (qfi n) ([],()) (fun v y m0 h=>(qnv n).okk (x:=(v,())) (y:=y) h m0 (qsI m0)) (fun l y m0 h=>(qo8 n).okk (x:=(l,())) (y:=y) h m0 (qsI m0)) (fun A c=>by cases A with | none=>exact qo9 n c | some a=>exact qpa n a c)
def qpb(n:Nat):=(qky n).M
set_option maxHeartbeats 4000000
def qkI(hut:Int)(lo:Int):Nat→List (Int×Int)
 | 0=>[]
 | n+1=>(hut,lo)::qkI hut (lo+1) n
def qrJ(s:Int×(Int×Int)):List (Int×Int):=qkI s.1 s.2.1 (s.2.2+1-s.2.1).toNat
def qcJ:List (Int×(Int×Int))→List (Int×Int)
 | []=>[]
 | s::l=>qrJ s++qcJ l
def qtZ(l:List (Int×(Int×Int))):Bool:=Nat.ble l.length 1000000&&l.all fun s=>decide (-9223372036854775808≤s.2.1)&&decide (s.2.2<9223372036854775807)
def qwh(y:Int×Int):qR [T150]:=(y,())
theorem qxJ(l:List (Int×Int)):((l.map qwh).map (tysA [T150])).length=l.length:=by rw[List.length_map,List.length_map]
def qp4(l:List (Int×(Int×Int))):Option (List (qR [T150])):=cond (qtZ l) (some ((qcJ l).map qwh)) none
def qiZ(l:List (Int×(Int×Int)))(k:Nat):Nat:=(qcJ (l.take k)).length
theorem qre(h:Int):∀(n:Nat) (lo:Int),(qkI h lo n).length=n
 | 0,_=>rfl
 | n+1,lo=>by simp[qkI,qre h n]
theorem qwi(h:Int):∀(n:Nat) (lo:Int) (j:Nat),j<n→(qkI h lo n)[j]?=some (h,lo+j)
 | n+1,lo,0,_=>by simp[qkI]
 | n+1,lo,j+1,hj=>by
  simp only[qkI,List.getElem?_cons_succ]
  rw[qwi h n (lo+1) j (by omega)]
  congr 2
  omega
theorem qsJ:∀(l m:List (Int×(Int×Int))),qcJ (l++m)=qcJ l++qcJ m
 | [],_=>rfl
 | s::l,m=>by simp[qcJ,qsJ l m]
theorem qAS(l:List (Int×(Int×Int)))(k:Nat)(hk:k<l.length):qiZ l (k+1)=qiZ l k+(l[k].2.2+1-l[k].2.1).toNat:=by
 unfold qiZ
 rw[List.take_succ_eq_append_getElem hk,qsJ]
 simp[qcJ,qrJ,qre]
theorem qB3(l:List (Int×(Int×Int))):qiZ l l.length=(qcJ l).length:=by unfold qiZ;simp
theorem qDw(l:List (Int×(Int×Int)))(k:Nat)(hk:k<l.length)(j:Nat)(hj:j<(l[k].2.2+1-l[k].2.1).toNat):(qcJ l)[qiZ l k+j]?=some (l[k].1,l[k].2.1+j):=by
 have h1:l=l.take k++l[k]::l.drop (k+1):=by simp
 have h2:qcJ l=qcJ (l.take k)++(qrJ l[k]++qcJ (l.drop (k+1))):=by
  conv=>lhs;rw[h1]
  rw[qsJ];rfl
 rw[h2,List.getElem?_append_right (by unfold qiZ;omega),show qiZ l k+j-(qcJ (l.take k)).length=j by unfold qiZ;omega,List.getElem?_append_left (by unfold qrJ;rw[qre];exact hj)]
 exact qwi _ _ _ _ hj
theorem qEr{a b:Int}(h:a=b):[AV.int a]=[AV.int b]:=by rw[h]
theorem qDx(x:qR [T77])(l:List (qR [T150]))(h:qp4 x.1.2.2.2.2=some l):qvL Tryz.prog false 155 [] (qhn [T77] x) (l.map (tysA [T150])):=by
 obtain ⟨⟨ma,mb,mc,md,ss⟩,u⟩:=x
 change List (Int×(Int×Int)) at ss
 unfold qp4 at h
 cases hb:qtZ ss with
 | false=>simp only at h;rw[hb] at h;cases h
 | true =>
 simp only at h;rw[hb] at h
 injection h with h
 subst h
 unfold qtZ at hb
 simp only[Bool.and_eq_true,Nat.ble_eq,List.all_eq_true,decide_eq_true_eq] at hb
 obtain ⟨hlen,hbd⟩:=hb
 refine ⟨enters_of Tryz.func155 (by kernel_rfl) rfl,fun lp T J Jx X hcJ hcx hone hy=>?_⟩
 have hyk:∀k (hk:k<ss.length) (j:Nat),j<(ss[k].2.2+1-ss[k].2.1).toNat→qvK Tryz.prog T lp [.agg [.int ss[k].1,.int (ss[k].2.1+j)]] (J (qiZ ss k+j)) (J (qiZ ss k+j+1)) Jx:=fun k hk j hj=>by
  have h1:=qDw ss k hk j hj
  have h2:=(List.getElem?_eq_some_iff.1 h1).1
  have h3:=hy (qiZ ss k+j) (by rw[qxJ];exact h2)
  rw[List.getElem_map,List.getElem_map,(List.getElem?_eq_some_iff.1 h1).2] at h3
  exact h3
 have hY:=Lib.hid hyk
 have hN:=Lib.hid (qAS ss)
 have hN0:qiZ ss 0=0:=rfl
 have hNl:qiZ ss ss.length=(((qcJ ss).map qwh).map (tysA [T150])).length:=by rw[qB3,qxJ]
 show MCT Tryz.prog T 155 [.val (.func (.yield lp) #[] #[]),.rp [.val (.int .i64 ma),.val (.int .i64 mb),.val (.int .i64 mc),.val (.int .i64 md),.sl 3 (ss.map fun s=>[.val (.int .i64 s.1),.val (.int .i64 s.2.1),.val (.int .i64 s.2.2)])]] [.nodef,.ghost X (J 0)] fun _ H'=>∃X',HE.ghost X' (J (((qcJ ss).map qwh).map (tysA [T150])).length)∈H'∨HE.ghost X' Jx∈H'
 rw[← hNl,← hN0]
 clear hy hyk hNl
 generalize hrr:(ss.map fun s=>[AV.val (.int .i64 s.1),AV.val (.int .i64 s.2.1),AV.val (.int .i64 s.2.2)])=rr
 have hrl:rr.length=ss.length:=by rw[← hrr];simp
 have hra:∀k (hk:k<ss.length),rr[k]?=some [.int ss[k].1,.int ss[k].2.1,.int ss[k].2.2]:=fun k hk=>by rw[← hrr,List.getElem?_map,List.getElem?_eq_getElem hk];rfl
 (refine MCT.of Tryz.func155 (by kernel_rfl) rfl (by simp only[Tryz.ntmps155,List.length_cons,List.length_nil,Nat.reduceAdd,Nat.reduceSub,List.replicate_succ,List.replicate_zero,List.cons_append,List.nil_append];rfl) fun w0 S hM hT=>?_;have hF:Wf Fence.wide:=.inl rfl)
 (repeat' (first | ((first | with_reducible refine AL.id_ ?_ | with_reducible refine AE.id_ ?_);first | refine AL.build0 hF rfl rfl rfl (fun b=>⟨_,(by simp only[AV.put];rfl),?_⟩) | refine W.s rfl rfl (by first | exact AY.bx rfl (by simp only[evO,AV.get];rfl) rfl | exact AY.mkFn rfl (by simp only[List.map_cons,List.map_nil,evO,AV.get];rfl) | exact AY.mkFn1 rfl (by simp only[evO,AV.get];rfl) (by simp only[List.map_cons,List.map_nil,evO,AV.get];rfl) | exact hEQ rfl rfl rfl | exact Step2.sound (by first | (((first | (apply Step2.a;constructor) | (apply Step2.b;constructor))<;>first | infer_instance | skip)<;>(first | infer_instance | (refine w64c ?_;omega) | (refine qsh ?_;omega) | (refine qpQ ?_;omega) | (refine qpR ?_;omega) | (refine qse ?_;omega) | ((repeat (first | exact .head _ | refine .tail _ ?_));done) | assumption | (simp only[List.drop_succ_cons,List.drop_zero,List.length_map,Nat.zero_add,Nat.mul_one];rfl) | rfl | omega | (simp;done))) | fail) rfl | exact AY.call rfl rfl _ rfl (by fail) | exact AY.slice1 rfl rfl rfl (by rfl) (by first | (simp;done) | fail) | exact AY.callF rfl _ _ rfl _ rfl (by fail) | exact AY.old1k 0 rfl rfl rfl (by first | assumption | rfl) | exact AY.old1k 1 rfl rfl rfl (by first | assumption | rfl) | exact AY.old1k 2 rfl rfl rfl (by first | assumption | rfl) | exact AY.oldNk 0 rfl rfl rfl (by first | omega | (simp;omega)) (by first | assumption | rfl) | exact AY.oldNk 1 rfl rfl rfl (by first | omega | (simp;omega)) (by first | assumption | rfl)) (by simp only[AV.put];rfl) ?_ | (refine AL.nilK (hK _ _ ?_);clear hK K) | (refine AE.nil (hK _ ?_);clear hK K) | refine W.k rfl rfl (by simp only[AV.put];rfl) ?_ | refine AL.unguardS rfl rfl ?_ | refine AL.al hF rfl rfl rfl (by first | (simp only[Value.cells,List.map_cons,List.map_nil];rfl) | rfl) (fun b=>⟨_,(by simp only[AV.put];rfl),?_⟩) | refine AL.st1 hF rfl rfl rfl rfl (by simp only[evO,AV.get];rfl) (by first | exact qkO | exact qkP | exact qkQ | exact qkR | exact qkS | exact qkT | exact qkU | exact qkV) (by rfl) rfl (by rfl) (by first | (simp;done) | (simp;omega) | omega) (by simp only[List.set];rfl) ?_ | refine AL.stW hF rfl rfl rfl rfl (by simp only[evO,AV.get];rfl) (by first | exact qkO | exact qkP | exact qkQ | exact qkR | exact qkS | exact qkT | exact qkU | exact qkV) (by rfl) (by rfl) (by rfl) (by first | rfl | simp) (by simp only[List.set];rfl) ?_) | (with_reducible refine Awp.id_ ?_;first | refine Awp.seq ?_ | refine Awp.regionK (by first | (simp only[AV.putO,AV.put];rfl) | rfl) (fun K hK=>?_) | refine Awp.drawE (by first | (simp only[AV.putO,AV.put];rfl) | rfl) mixed rfl (by kernel_rfl) (fun K hK=>?_) | refine Awp.block ?_ | refine Awp.skip ?_ | refine Awp.exit ?_ | refine Awp.ret ?_ | refine Awp.condT rfl ?_ | refine Awp.condF rfl ?_) | refine qoa ?_ | refine qob ?_ | refine qoc ?_ | refine qj4 ?_ | refine qj5 ?_ | refine qj6 ?_ | refine qj7 rfl ?_ | ((first | ((first | with_reducible refine AL.id_ ?_ | with_reducible refine AE.id_ ?_);(fail_if_success refine W.on rfl ?_);refine W.p rfl rfl (by simp only[AV.put];rfl) (by simp only[AV.put];rfl) (fun hb=>?_) (fun hb=>?_)) | (with_reducible refine Awp.id_ ?_;refine Awp.cond _ rfl (fun hb=>?_) (fun hb=>?_)))<;>(try simp only[z1,z2,z3,z4,z5,z6,z7,z8,y5,y6,y7,y8,z9,x1,x2,x3,x4,x5,x6,x7,x8] at hb;try (exfalso;omega)))))
 refine Awp.loopM [4,5,10,11,12,13,14,15,16,17,18,19,20,21,22,23,24,25,26,27,28,29,30] [9] (fun n vs H=>∃(k:Nat) (X':Nat→Prop),n+k=ss.length∧vs=[.int k]∧H=[.nodef,.ghost X' (J (qiZ ss k))]) ss.length ⟨0,X,rfl,rfl,rfl⟩ ?_
 rintro n ju vs H ⟨k,X',hk,rfl,rfl⟩
 (refine Awp.slots (by first | (simp only[putl,mask,AV.put];rfl) | rfl) ?_)
 by_cases hlt:k<ss.length
 ·have hrow:=hra k hlt
  have hYk:=Lib.hid (hY.out k hlt)
  have hNk:=hN.out k hlt
  obtain ⟨hb1,hb2⟩:=hbd _ (List.getElem_mem hlt)
  generalize ss[k].1=hu at *
  generalize ss[k].2.1=lo at *
  generalize ss[k].2.2=hi at *
  (repeat' (first | ((first | with_reducible refine AL.id_ ?_ | with_reducible refine AE.id_ ?_);first | refine AL.build0 hF rfl rfl rfl (fun b=>⟨_,(by simp only[AV.put];rfl),?_⟩) | refine W.s rfl rfl (by first | exact AY.bx rfl (by simp only[evO,AV.get];rfl) rfl | exact AY.mkFn rfl (by simp only[List.map_cons,List.map_nil,evO,AV.get];rfl) | exact AY.mkFn1 rfl (by simp only[evO,AV.get];rfl) (by simp only[List.map_cons,List.map_nil,evO,AV.get];rfl) | exact hEQ rfl rfl rfl | exact Step2.sound (by first | (((first | (apply Step2.a;constructor) | (apply Step2.b;constructor))<;>first | infer_instance | skip)<;>(first | infer_instance | (refine w64c ?_;omega) | (refine qsh ?_;omega) | (refine qpQ ?_;omega) | (refine qpR ?_;omega) | (refine qse ?_;omega) | ((repeat (first | exact .head _ | refine .tail _ ?_));done) | assumption | (simp only[List.drop_succ_cons,List.drop_zero,List.length_map,Nat.zero_add,Nat.mul_one];rfl) | rfl | omega | (simp;done))) | fail) rfl | exact AY.call rfl rfl _ rfl (by fail) | exact AY.slice1 rfl rfl rfl (by rfl) (by first | (simp;done) | fail) | exact AY.callF rfl _ _ rfl _ rfl (by fail) | exact AY.old1k 0 rfl rfl rfl (by first | assumption | rfl) | exact AY.old1k 1 rfl rfl rfl (by first | assumption | rfl) | exact AY.old1k 2 rfl rfl rfl (by first | assumption | rfl) | exact AY.oldNk 0 rfl rfl rfl (by first | omega | (simp;omega)) (by first | assumption | rfl) | exact AY.oldNk 1 rfl rfl rfl (by first | omega | (simp;omega)) (by first | assumption | rfl)) (by simp only[AV.put];rfl) ?_ | (refine AL.nilK (hK _ _ ?_);clear hK K) | (refine AE.nil (hK _ ?_);clear hK K) | refine W.k rfl rfl (by simp only[AV.put];rfl) ?_ | refine AL.unguardS rfl rfl ?_ | refine AL.al hF rfl rfl rfl (by first | (simp only[Value.cells,List.map_cons,List.map_nil];rfl) | rfl) (fun b=>⟨_,(by simp only[AV.put];rfl),?_⟩) | refine AL.st1 hF rfl rfl rfl rfl (by simp only[evO,AV.get];rfl) (by first | exact qkO | exact qkP | exact qkQ | exact qkR | exact qkS | exact qkT | exact qkU | exact qkV) (by rfl) rfl (by rfl) (by first | (simp;done) | (simp;omega) | omega) (by simp only[List.set];rfl) ?_ | refine AL.stW hF rfl rfl rfl rfl (by simp only[evO,AV.get];rfl) (by first | exact qkO | exact qkP | exact qkQ | exact qkR | exact qkS | exact qkT | exact qkU | exact qkV) (by rfl) (by rfl) (by rfl) (by first | rfl | simp) (by simp only[List.set];rfl) ?_) | (with_reducible refine Awp.id_ ?_;first | refine Awp.seq ?_ | refine Awp.regionK (by first | (simp only[AV.putO,AV.put];rfl) | rfl) (fun K hK=>?_) | refine Awp.drawE (by first | (simp only[AV.putO,AV.put];rfl) | rfl) mixed rfl (by kernel_rfl) (fun K hK=>?_) | refine Awp.block ?_ | refine Awp.skip ?_ | refine Awp.exit ?_ | refine Awp.ret ?_ | refine Awp.condT rfl ?_ | refine Awp.condF rfl ?_) | refine qoa ?_ | refine qob ?_ | refine qoc ?_ | refine qj4 ?_ | refine qj5 ?_ | refine qj6 ?_ | refine qj7 rfl ?_ | ((first | ((first | with_reducible refine AL.id_ ?_ | with_reducible refine AE.id_ ?_);(fail_if_success refine W.on rfl ?_);refine W.p rfl rfl (by simp only[AV.put];rfl) (by simp only[AV.put];rfl) (fun hb=>?_) (fun hb=>?_)) | (with_reducible refine Awp.id_ ?_;refine Awp.cond _ rfl (fun hb=>?_) (fun hb=>?_)))<;>(try simp only[z1,z2,z3,z4,z5,z6,z7,z8,y5,y6,y7,y8,z9,x1,x2,x3,x4,x5,x6,x7,x8] at hb;try (exfalso;omega)))))
  refine Awp.loopM [16,17,18,19,20,21,22,23,24,25,26,27,28,29] [5] (fun n vs H=>∃(j:Nat) (X3:Nat→Prop),n+j=(hi+1-lo).toNat∧vs=[.int (lo+j)]∧H=[.blk b 84 [.int hu,.int lo,.int hi],.nodef,.ghost X3 (J (qiZ ss k+j))]) (hi+1-lo).toNat ⟨0,X',by omega,by simp;rfl,rfl⟩ ?_
  rintro n1 ju1 vs1 H1 ⟨j,X3,hj,rfl,rfl⟩
  (refine Awp.slots (by first | (simp only[putl,mask,AV.put];rfl) | rfl) ?_)
  by_cases hlt2:j<(hi+1-lo).toNat
  ·have hle:lo+j≤hi:=by omega
   have hye:=hYk.out j hlt2
   (repeat' (first | ((first | with_reducible refine AL.id_ ?_ | with_reducible refine AE.id_ ?_);first | refine AL.build0 hF rfl rfl rfl (fun b=>⟨_,(by simp only[AV.put];rfl),?_⟩) | refine W.s rfl rfl (by first | exact AY.bx rfl (by simp only[evO,AV.get];rfl) rfl | exact AY.mkFn rfl (by simp only[List.map_cons,List.map_nil,evO,AV.get];rfl) | exact AY.mkFn1 rfl (by simp only[evO,AV.get];rfl) (by simp only[List.map_cons,List.map_nil,evO,AV.get];rfl) | exact AY.build rfl (by simp only[List.map_cons,List.map_nil,evO,AV.get];rfl) (by simp only[List.map_cons,List.map_nil];repeat (first | exact Places.nil | apply Places.cons)) (by first | (simp only[zip3,qda,qeG,qbQ,qr,qgG,List.map_cons,List.map_nil,List.length_cons,List.length_nil,List.take_succ_cons,List.take_zero,List.drop_succ_cons,List.drop_zero,List.replicate_succ,List.replicate_zero,List.cons_append,List.nil_append,List.append_nil,List.drop_nil,List.take_nil,List.toList_toArray,Nat.sub_zero,Nat.reduceSub,Nat.reduceAdd,Nat.reduceMul,Nat.zero_mul,Nat.one_mul,Nat.mul_one,Nat.zero_add,Nat.le_refl,Nat.reduceLeDiff,and_self,true_and,and_true,if_true];rfl) | rfl) | exact AY.buildS rfl (by simp only[List.map_cons,List.map_nil,evO,AV.get];rfl) (by first | rfl | decide) (by omega) (by first | (simp only[zip3,qda,qeG,qbQ,qr,qgG,List.map_cons,List.map_nil,List.length_cons,List.length_nil,List.take_succ_cons,List.take_zero,List.drop_succ_cons,List.drop_zero,List.replicate_succ,List.replicate_zero,List.cons_append,List.nil_append,List.append_nil,List.drop_nil,List.take_nil,List.toList_toArray,Nat.sub_zero,Nat.reduceSub,Nat.reduceAdd,Nat.reduceMul,Nat.zero_mul,Nat.one_mul,Nat.mul_one,Nat.zero_add,Nat.le_refl,Nat.reduceLeDiff,and_self,true_and,and_true,if_true];rfl) | rfl) (by first | (simp only[zip3,qda,qeG,qbQ,qr,qgG,List.map_cons,List.map_nil,List.length_cons,List.length_nil,List.take_succ_cons,List.take_zero,List.drop_succ_cons,List.drop_zero,List.replicate_succ,List.replicate_zero,List.cons_append,List.nil_append,List.append_nil,List.drop_nil,List.take_nil,List.toList_toArray,Nat.sub_zero,Nat.reduceSub,Nat.reduceAdd,Nat.reduceMul,Nat.zero_mul,Nat.one_mul,Nat.mul_one,Nat.zero_add,Nat.le_refl,Nat.reduceLeDiff,and_self,true_and,and_true,if_true];rfl) | rfl) | exact hEQ rfl rfl rfl | exact Step2.sound (by first | (((first | (apply Step2.a;constructor) | (apply Step2.b;constructor))<;>first | infer_instance | skip)<;>(first | infer_instance | (refine w64c ?_;omega) | (refine qsh ?_;omega) | (refine qpQ ?_;omega) | (refine qpR ?_;omega) | (refine qse ?_;omega) | ((repeat (first | exact .head _ | refine .tail _ ?_));done) | assumption | (simp only[List.drop_succ_cons,List.drop_zero,List.length_map,Nat.zero_add,Nat.mul_one];rfl) | rfl | omega | (simp;done))) | fail) rfl | exact AY.call rfl rfl _ rfl (by fail) | exact AY.slice1 rfl rfl rfl (by rfl) (by first | (simp;done) | fail) | exact AY.callF rfl _ _ rfl _ rfl (by fail) | exact AY.old1k 0 rfl rfl rfl (by first | assumption | rfl) | exact AY.old1k 1 rfl rfl rfl (by first | assumption | rfl) | exact AY.old1k 2 rfl rfl rfl (by first | assumption | rfl) | exact AY.oldNk 0 rfl rfl rfl (by first | omega | (simp;omega)) (by first | assumption | rfl) | exact AY.oldNk 1 rfl rfl rfl (by first | omega | (simp;omega)) (by first | assumption | rfl)) (by simp only[AV.put];rfl) ?_ | (refine AL.nilK (hK _ _ ?_);clear hK K) | (refine AE.nil (hK _ ?_);clear hK K) | refine W.k rfl rfl (by simp only[AV.put];rfl) ?_ | refine AL.unguardS rfl rfl ?_ | refine AL.al hF rfl rfl rfl (by first | (simp only[Value.cells,List.map_cons,List.map_nil];rfl) | rfl) (fun b=>⟨_,(by simp only[AV.put];rfl),?_⟩) | refine AL.st1 hF rfl rfl rfl rfl (by simp only[evO,AV.get];rfl) (by first | exact qkO | exact qkP | exact qkQ | exact qkR | exact qkS | exact qkT | exact qkU | exact qkV) (by rfl) rfl (by rfl) (by first | (simp;done) | (simp;omega) | omega) (by simp only[List.set];rfl) ?_ | refine AL.stW hF rfl rfl rfl rfl (by simp only[evO,AV.get];rfl) (by first | exact qkO | exact qkP | exact qkQ | exact qkR | exact qkS | exact qkT | exact qkU | exact qkV) (by rfl) (by rfl) (by rfl) (by first | rfl | simp) (by simp only[List.set];rfl) ?_) | (with_reducible refine Awp.id_ ?_;first | refine Awp.seq ?_ | refine Awp.regionK (by first | (simp only[AV.putO,AV.put];rfl) | rfl) (fun K hK=>?_) | refine Awp.drawE (by first | (simp only[AV.putO,AV.put];rfl) | rfl) mixed rfl (by kernel_rfl) (fun K hK=>?_) | refine Awp.block ?_ | refine Awp.skip ?_ | refine Awp.exit ?_ | refine Awp.ret ?_ | refine Awp.condT rfl ?_ | refine Awp.condF rfl ?_) | refine qoa ?_ | refine qob ?_ | refine qoc ?_ | refine qj4 ?_ | refine qj5 ?_ | refine qj6 ?_ | refine qj7 rfl ?_ | ((first | ((first | with_reducible refine AL.id_ ?_ | with_reducible refine AE.id_ ?_);(fail_if_success refine W.on rfl ?_);refine W.p rfl rfl (by simp only[AV.put];rfl) (by simp only[AV.put];rfl) (fun hb=>?_) (fun hb=>?_)) | (with_reducible refine Awp.id_ ?_;refine Awp.cond _ rfl (fun hb=>?_) (fun hb=>?_)))<;>(try simp only[z1,z2,z3,z4,z5,z6,z7,z8,y5,y6,y7,y8,z9,x1,x2,x3,x4,x5,x6,x7,x8] at hb;try (exfalso;omega)))))
   have hgho:∀i e,([HE.blk b 84 [.int hu,.int lo,.int hi],.nodef,.ghost X3 (J (qiZ ss k+j))])[i]?=some e→e.isGhost→i=2:=fun i e h1 h2=>by
    match i,h1 with
    | 0,h1=>cases h1;exact h2.elim
    | 1,h1=>cases h1;exact h2.elim
    | 2,_=>rfl
   refine AL.yield 2 rfl rfl rfl rfl _ rfl rfl hgho (by simp) (fun b hA=>hT b fun h=>(hA.1 h).1) hye (hcJ _) hcx (fun X4=>?_) (fun X4=>?_)
   ·refine AL.norm (by simp only[AV.put];rfl) rfl ?_
    (repeat' (first | ((first | with_reducible refine AL.id_ ?_ | with_reducible refine AE.id_ ?_);first | refine AL.build0 hF rfl rfl rfl (fun b=>⟨_,(by simp only[AV.put];rfl),?_⟩) | refine W.s rfl rfl (by first | exact AY.bx rfl (by simp only[evO,AV.get];rfl) rfl | exact AY.mkFn rfl (by simp only[List.map_cons,List.map_nil,evO,AV.get];rfl) | exact AY.mkFn1 rfl (by simp only[evO,AV.get];rfl) (by simp only[List.map_cons,List.map_nil,evO,AV.get];rfl) | exact AY.build rfl (by simp only[List.map_cons,List.map_nil,evO,AV.get];rfl) (by simp only[List.map_cons,List.map_nil];repeat (first | exact Places.nil | apply Places.cons)) (by first | (simp only[zip3,qda,qeG,qbQ,qr,qgG,List.map_cons,List.map_nil,List.length_cons,List.length_nil,List.take_succ_cons,List.take_zero,List.drop_succ_cons,List.drop_zero,List.replicate_succ,List.replicate_zero,List.cons_append,List.nil_append,List.append_nil,List.drop_nil,List.take_nil,List.toList_toArray,Nat.sub_zero,Nat.reduceSub,Nat.reduceAdd,Nat.reduceMul,Nat.zero_mul,Nat.one_mul,Nat.mul_one,Nat.zero_add,Nat.le_refl,Nat.reduceLeDiff,and_self,true_and,and_true,if_true];rfl) | rfl) | exact AY.buildS rfl (by simp only[List.map_cons,List.map_nil,evO,AV.get];rfl) (by first | rfl | decide) (by omega) (by first | (simp only[zip3,qda,qeG,qbQ,qr,qgG,List.map_cons,List.map_nil,List.length_cons,List.length_nil,List.take_succ_cons,List.take_zero,List.drop_succ_cons,List.drop_zero,List.replicate_succ,List.replicate_zero,List.cons_append,List.nil_append,List.append_nil,List.drop_nil,List.take_nil,List.toList_toArray,Nat.sub_zero,Nat.reduceSub,Nat.reduceAdd,Nat.reduceMul,Nat.zero_mul,Nat.one_mul,Nat.mul_one,Nat.zero_add,Nat.le_refl,Nat.reduceLeDiff,and_self,true_and,and_true,if_true];rfl) | rfl) (by first | (simp only[zip3,qda,qeG,qbQ,qr,qgG,List.map_cons,List.map_nil,List.length_cons,List.length_nil,List.take_succ_cons,List.take_zero,List.drop_succ_cons,List.drop_zero,List.replicate_succ,List.replicate_zero,List.cons_append,List.nil_append,List.append_nil,List.drop_nil,List.take_nil,List.toList_toArray,Nat.sub_zero,Nat.reduceSub,Nat.reduceAdd,Nat.reduceMul,Nat.zero_mul,Nat.one_mul,Nat.mul_one,Nat.zero_add,Nat.le_refl,Nat.reduceLeDiff,and_self,true_and,and_true,if_true];rfl) | rfl) | exact hEQ rfl rfl rfl | exact Step2.sound (by first | (((first | (apply Step2.a;constructor) | (apply Step2.b;constructor))<;>first | infer_instance | skip)<;>(first | infer_instance | (refine w64c ?_;omega) | (refine qsh ?_;omega) | (refine qpQ ?_;omega) | (refine qpR ?_;omega) | (refine qse ?_;omega) | ((repeat (first | exact .head _ | refine .tail _ ?_));done) | assumption | (simp only[List.drop_succ_cons,List.drop_zero,List.length_map,Nat.zero_add,Nat.mul_one];rfl) | rfl | omega | (simp;done))) | fail) rfl | exact AY.call rfl rfl _ rfl (by fail) | exact AY.slice1 rfl rfl rfl (by rfl) (by first | (simp;done) | fail) | exact AY.callF rfl _ _ rfl _ rfl (by fail) | exact AY.old1k 0 rfl rfl rfl (by first | assumption | rfl) | exact AY.old1k 1 rfl rfl rfl (by first | assumption | rfl) | exact AY.old1k 2 rfl rfl rfl (by first | assumption | rfl) | exact AY.oldNk 0 rfl rfl rfl (by first | omega | (simp;omega)) (by first | assumption | rfl) | exact AY.oldNk 1 rfl rfl rfl (by first | omega | (simp;omega)) (by first | assumption | rfl)) (by simp only[AV.put];rfl) ?_ | (refine AL.nilK (hK _ _ ?_);clear hK K) | (refine AE.nil (hK _ ?_);clear hK K) | refine W.k rfl rfl (by simp only[AV.put];rfl) ?_ | refine AL.unguardS rfl rfl ?_ | refine AL.al hF rfl rfl rfl (by first | (simp only[Value.cells,List.map_cons,List.map_nil];rfl) | rfl) (fun b=>⟨_,(by simp only[AV.put];rfl),?_⟩) | refine AL.st1 hF rfl rfl rfl rfl (by simp only[evO,AV.get];rfl) (by first | exact qkO | exact qkP | exact qkQ | exact qkR | exact qkS | exact qkT | exact qkU | exact qkV) (by rfl) rfl (by rfl) (by first | (simp;done) | (simp;omega) | omega) (by simp only[List.set];rfl) ?_ | refine AL.stW hF rfl rfl rfl rfl (by simp only[evO,AV.get];rfl) (by first | exact qkO | exact qkP | exact qkQ | exact qkR | exact qkS | exact qkT | exact qkU | exact qkV) (by rfl) (by rfl) (by rfl) (by first | rfl | simp) (by simp only[List.set];rfl) ?_) | (with_reducible refine Awp.id_ ?_;first | refine Awp.seq ?_ | refine Awp.regionK (by first | (simp only[AV.putO,AV.put];rfl) | rfl) (fun K hK=>?_) | refine Awp.drawE (by first | (simp only[AV.putO,AV.put];rfl) | rfl) mixed rfl (by kernel_rfl) (fun K hK=>?_) | refine Awp.block ?_ | refine Awp.skip ?_ | refine Awp.exit ?_ | refine Awp.ret ?_ | refine Awp.condT rfl ?_ | refine Awp.condF rfl ?_) | refine qoa ?_ | refine qob ?_ | refine qoc ?_ | refine qj4 ?_ | refine qj5 ?_ | refine qj6 ?_ | refine qj7 rfl ?_ | ((first | ((first | with_reducible refine AL.id_ ?_ | with_reducible refine AE.id_ ?_);(fail_if_success refine W.on rfl ?_);refine W.p rfl rfl (by simp only[AV.put];rfl) (by simp only[AV.put];rfl) (fun hb=>?_) (fun hb=>?_)) | (with_reducible refine Awp.id_ ?_;refine Awp.cond _ rfl (fun hb=>?_) (fun hb=>?_)))<;>(try simp only[z1,z2,z3,z4,z5,z6,z7,z8,y5,y6,y7,y8,z9,x1,x2,x3,x4,x5,x6,x7,x8] at hb;try (exfalso;omega)))))
    (refine qEy (n1-1) (by first | (simp only[AV.putO,AV.put];rfl) | rfl) (by omega) ?_ (by simp only[List.map,AV.get,mask,putl,AV.put]))
    exact ⟨j+1,X4,by omega,qEr (by omega),rfl⟩
   ·refine AL.norm (by simp only[AV.put];rfl) rfl ?_
    (repeat' (first | ((first | with_reducible refine AL.id_ ?_ | with_reducible refine AE.id_ ?_);first | refine AL.build0 hF rfl rfl rfl (fun b=>⟨_,(by simp only[AV.put];rfl),?_⟩) | refine W.s rfl rfl (by first | exact AY.bx rfl (by simp only[evO,AV.get];rfl) rfl | exact AY.mkFn rfl (by simp only[List.map_cons,List.map_nil,evO,AV.get];rfl) | exact AY.mkFn1 rfl (by simp only[evO,AV.get];rfl) (by simp only[List.map_cons,List.map_nil,evO,AV.get];rfl) | exact AY.build rfl (by simp only[List.map_cons,List.map_nil,evO,AV.get];rfl) (by simp only[List.map_cons,List.map_nil];repeat (first | exact Places.nil | apply Places.cons)) (by first | (simp only[zip3,qda,qeG,qbQ,qr,qgG,List.map_cons,List.map_nil,List.length_cons,List.length_nil,List.take_succ_cons,List.take_zero,List.drop_succ_cons,List.drop_zero,List.replicate_succ,List.replicate_zero,List.cons_append,List.nil_append,List.append_nil,List.drop_nil,List.take_nil,List.toList_toArray,Nat.sub_zero,Nat.reduceSub,Nat.reduceAdd,Nat.reduceMul,Nat.zero_mul,Nat.one_mul,Nat.mul_one,Nat.zero_add,Nat.le_refl,Nat.reduceLeDiff,and_self,true_and,and_true,if_true];rfl) | rfl) | exact AY.buildS rfl (by simp only[List.map_cons,List.map_nil,evO,AV.get];rfl) (by first | rfl | decide) (by omega) (by first | (simp only[zip3,qda,qeG,qbQ,qr,qgG,List.map_cons,List.map_nil,List.length_cons,List.length_nil,List.take_succ_cons,List.take_zero,List.drop_succ_cons,List.drop_zero,List.replicate_succ,List.replicate_zero,List.cons_append,List.nil_append,List.append_nil,List.drop_nil,List.take_nil,List.toList_toArray,Nat.sub_zero,Nat.reduceSub,Nat.reduceAdd,Nat.reduceMul,Nat.zero_mul,Nat.one_mul,Nat.mul_one,Nat.zero_add,Nat.le_refl,Nat.reduceLeDiff,and_self,true_and,and_true,if_true];rfl) | rfl) (by first | (simp only[zip3,qda,qeG,qbQ,qr,qgG,List.map_cons,List.map_nil,List.length_cons,List.length_nil,List.take_succ_cons,List.take_zero,List.drop_succ_cons,List.drop_zero,List.replicate_succ,List.replicate_zero,List.cons_append,List.nil_append,List.append_nil,List.drop_nil,List.take_nil,List.toList_toArray,Nat.sub_zero,Nat.reduceSub,Nat.reduceAdd,Nat.reduceMul,Nat.zero_mul,Nat.one_mul,Nat.mul_one,Nat.zero_add,Nat.le_refl,Nat.reduceLeDiff,and_self,true_and,and_true,if_true];rfl) | rfl) | exact hEQ rfl rfl rfl | exact Step2.sound (by first | (((first | (apply Step2.a;constructor) | (apply Step2.b;constructor))<;>first | infer_instance | skip)<;>(first | infer_instance | (refine w64c ?_;omega) | (refine qsh ?_;omega) | (refine qpQ ?_;omega) | (refine qpR ?_;omega) | (refine qse ?_;omega) | ((repeat (first | exact .head _ | refine .tail _ ?_));done) | assumption | (simp only[List.drop_succ_cons,List.drop_zero,List.length_map,Nat.zero_add,Nat.mul_one];rfl) | rfl | omega | (simp;done))) | fail) rfl | exact AY.call rfl rfl _ rfl (by fail) | exact AY.slice1 rfl rfl rfl (by rfl) (by first | (simp;done) | fail) | exact AY.callF rfl _ _ rfl _ rfl (by fail) | exact AY.old1k 0 rfl rfl rfl (by first | assumption | rfl) | exact AY.old1k 1 rfl rfl rfl (by first | assumption | rfl) | exact AY.old1k 2 rfl rfl rfl (by first | assumption | rfl) | exact AY.oldNk 0 rfl rfl rfl (by first | omega | (simp;omega)) (by first | assumption | rfl) | exact AY.oldNk 1 rfl rfl rfl (by first | omega | (simp;omega)) (by first | assumption | rfl)) (by simp only[AV.put];rfl) ?_ | (refine AL.nilK (hK _ _ ?_);clear hK K) | (refine AE.nil (hK _ ?_);clear hK K) | refine W.k rfl rfl (by simp only[AV.put];rfl) ?_ | refine AL.unguardS rfl rfl ?_ | refine AL.al hF rfl rfl rfl (by first | (simp only[Value.cells,List.map_cons,List.map_nil];rfl) | rfl) (fun b=>⟨_,(by simp only[AV.put];rfl),?_⟩) | refine AL.st1 hF rfl rfl rfl rfl (by simp only[evO,AV.get];rfl) (by first | exact qkO | exact qkP | exact qkQ | exact qkR | exact qkS | exact qkT | exact qkU | exact qkV) (by rfl) rfl (by rfl) (by first | (simp;done) | (simp;omega) | omega) (by simp only[List.set];rfl) ?_ | refine AL.stW hF rfl rfl rfl rfl (by simp only[evO,AV.get];rfl) (by first | exact qkO | exact qkP | exact qkQ | exact qkR | exact qkS | exact qkT | exact qkU | exact qkV) (by rfl) (by rfl) (by rfl) (by first | rfl | simp) (by simp only[List.set];rfl) ?_) | (with_reducible refine Awp.id_ ?_;first | refine Awp.seq ?_ | refine Awp.regionK (by first | (simp only[AV.putO,AV.put];rfl) | rfl) (fun K hK=>?_) | refine Awp.drawE (by first | (simp only[AV.putO,AV.put];rfl) | rfl) mixed rfl (by kernel_rfl) (fun K hK=>?_) | refine Awp.block ?_ | refine Awp.skip ?_ | refine Awp.exit ?_ | refine Awp.ret ?_ | refine Awp.condT rfl ?_ | refine Awp.condF rfl ?_) | refine qoa ?_ | refine qob ?_ | refine qoc ?_ | refine qj4 ?_ | refine qj5 ?_ | refine qj6 ?_ | refine qj7 rfl ?_ | ((first | ((first | with_reducible refine AL.id_ ?_ | with_reducible refine AE.id_ ?_);(fail_if_success refine W.on rfl ?_);refine W.p rfl rfl (by simp only[AV.put];rfl) (by simp only[AV.put];rfl) (fun hb=>?_) (fun hb=>?_)) | (with_reducible refine Awp.id_ ?_;refine Awp.cond _ rfl (fun hb=>?_) (fun hb=>?_)))<;>(try simp only[z1,z2,z3,z4,z5,z6,z7,z8,y5,y6,y7,y8,z9,x1,x2,x3,x4,x5,x6,x7,x8] at hb;try (exfalso;omega)))))
    exact qBi rfl ⟨X4,.inr (List.mem_of_getElem? (i:=2) rfl)⟩
  ·have hle:¬(lo+j≤hi):=by omega
   (repeat' (first | ((first | with_reducible refine AL.id_ ?_ | with_reducible refine AE.id_ ?_);first | refine AL.build0 hF rfl rfl rfl (fun b=>⟨_,(by simp only[AV.put];rfl),?_⟩) | refine W.s rfl rfl (by first | exact AY.bx rfl (by simp only[evO,AV.get];rfl) rfl | exact AY.mkFn rfl (by simp only[List.map_cons,List.map_nil,evO,AV.get];rfl) | exact AY.mkFn1 rfl (by simp only[evO,AV.get];rfl) (by simp only[List.map_cons,List.map_nil,evO,AV.get];rfl) | exact hEQ rfl rfl rfl | exact Step2.sound (by first | (((first | (apply Step2.a;constructor) | (apply Step2.b;constructor))<;>first | infer_instance | skip)<;>(first | infer_instance | (refine w64c ?_;omega) | (refine qsh ?_;omega) | (refine qpQ ?_;omega) | (refine qpR ?_;omega) | (refine qse ?_;omega) | ((repeat (first | exact .head _ | refine .tail _ ?_));done) | assumption | (simp only[List.drop_succ_cons,List.drop_zero,List.length_map,Nat.zero_add,Nat.mul_one];rfl) | rfl | omega | (simp;done))) | fail) rfl | exact AY.call rfl rfl _ rfl (by fail) | exact AY.slice1 rfl rfl rfl (by rfl) (by first | (simp;done) | fail) | exact AY.callF rfl _ _ rfl _ rfl (by fail) | exact AY.old1k 0 rfl rfl rfl (by first | assumption | rfl) | exact AY.old1k 1 rfl rfl rfl (by first | assumption | rfl) | exact AY.old1k 2 rfl rfl rfl (by first | assumption | rfl) | exact AY.oldNk 0 rfl rfl rfl (by first | omega | (simp;omega)) (by first | assumption | rfl) | exact AY.oldNk 1 rfl rfl rfl (by first | omega | (simp;omega)) (by first | assumption | rfl)) (by simp only[AV.put];rfl) ?_ | (refine AL.nilK (hK _ _ ?_);clear hK K) | (refine AE.nil (hK _ ?_);clear hK K) | refine W.k rfl rfl (by simp only[AV.put];rfl) ?_ | refine AL.unguardS rfl rfl ?_ | refine AL.al hF rfl rfl rfl (by first | (simp only[Value.cells,List.map_cons,List.map_nil];rfl) | rfl) (fun b=>⟨_,(by simp only[AV.put];rfl),?_⟩) | refine AL.st1 hF rfl rfl rfl rfl (by simp only[evO,AV.get];rfl) (by first | exact qkO | exact qkP | exact qkQ | exact qkR | exact qkS | exact qkT | exact qkU | exact qkV) (by rfl) rfl (by rfl) (by first | (simp;done) | (simp;omega) | omega) (by simp only[List.set];rfl) ?_ | refine AL.stW hF rfl rfl rfl rfl (by simp only[evO,AV.get];rfl) (by first | exact qkO | exact qkP | exact qkQ | exact qkR | exact qkS | exact qkT | exact qkU | exact qkV) (by rfl) (by rfl) (by rfl) (by first | rfl | simp) (by simp only[List.set];rfl) ?_) | (with_reducible refine Awp.id_ ?_;first | refine Awp.seq ?_ | refine Awp.regionK (by first | (simp only[AV.putO,AV.put];rfl) | rfl) (fun K hK=>?_) | refine Awp.drawE (by first | (simp only[AV.putO,AV.put];rfl) | rfl) mixed rfl (by kernel_rfl) (fun K hK=>?_) | refine Awp.block ?_ | refine Awp.skip ?_ | refine Awp.exit ?_ | refine Awp.ret ?_ | refine Awp.condT rfl ?_ | refine Awp.condF rfl ?_) | refine qoa ?_ | refine qob ?_ | refine qoc ?_ | refine qj4 ?_ | refine qj5 ?_ | refine qj6 ?_ | refine qj7 rfl ?_ | ((first | ((first | with_reducible refine AL.id_ ?_ | with_reducible refine AE.id_ ?_);(fail_if_success refine W.on rfl ?_);refine W.p rfl rfl (by simp only[AV.put];rfl) (by simp only[AV.put];rfl) (fun hb=>?_) (fun hb=>?_)) | (with_reducible refine Awp.id_ ?_;refine Awp.cond _ rfl (fun hb=>?_) (fun hb=>?_)))<;>(try simp only[z1,z2,z3,z4,z5,z6,z7,z8,y5,y6,y7,y8,z9,x1,x2,x3,x4,x5,x6,x7,x8] at hb;try (exfalso;omega)))))
   (refine qCI (n-1) (List.sublist_cons_self _ _) (by first | (simp only[AV.putO,AV.put];rfl) | rfl) (by omega) ?_ (by simp only[List.map,AV.get,mask,putl,AV.put]))
   exact ⟨k+1,X3,by omega,qEr (by omega),by rw[hNk,show (hi+1-lo).toNat=j by omega]⟩
 ·(repeat' (first | ((first | with_reducible refine AL.id_ ?_ | with_reducible refine AE.id_ ?_);first | refine AL.build0 hF rfl rfl rfl (fun b=>⟨_,(by simp only[AV.put];rfl),?_⟩) | refine W.s rfl rfl (by first | exact AY.bx rfl (by simp only[evO,AV.get];rfl) rfl | exact AY.mkFn rfl (by simp only[List.map_cons,List.map_nil,evO,AV.get];rfl) | exact AY.mkFn1 rfl (by simp only[evO,AV.get];rfl) (by simp only[List.map_cons,List.map_nil,evO,AV.get];rfl) | exact hEQ rfl rfl rfl | exact Step2.sound (by first | (((first | (apply Step2.a;constructor) | (apply Step2.b;constructor))<;>first | infer_instance | skip)<;>(first | infer_instance | (refine w64c ?_;omega) | (refine qsh ?_;omega) | (refine qpQ ?_;omega) | (refine qpR ?_;omega) | (refine qse ?_;omega) | ((repeat (first | exact .head _ | refine .tail _ ?_));done) | assumption | (simp only[List.drop_succ_cons,List.drop_zero,List.length_map,Nat.zero_add,Nat.mul_one];rfl) | rfl | omega | (simp;done))) | fail) rfl | exact AY.call rfl rfl _ rfl (by fail) | exact AY.slice1 rfl rfl rfl (by rfl) (by first | (simp;done) | fail) | exact AY.callF rfl _ _ rfl _ rfl (by fail) | exact AY.old1k 0 rfl rfl rfl (by first | assumption | rfl) | exact AY.old1k 1 rfl rfl rfl (by first | assumption | rfl) | exact AY.old1k 2 rfl rfl rfl (by first | assumption | rfl) | exact AY.oldNk 0 rfl rfl rfl (by first | omega | (simp;omega)) (by first | assumption | rfl) | exact AY.oldNk 1 rfl rfl rfl (by first | omega | (simp;omega)) (by first | assumption | rfl)) (by simp only[AV.put];rfl) ?_ | (refine AL.nilK (hK _ _ ?_);clear hK K) | (refine AE.nil (hK _ ?_);clear hK K) | refine W.k rfl rfl (by simp only[AV.put];rfl) ?_ | refine AL.unguardS rfl rfl ?_ | refine AL.al hF rfl rfl rfl (by first | (simp only[Value.cells,List.map_cons,List.map_nil];rfl) | rfl) (fun b=>⟨_,(by simp only[AV.put];rfl),?_⟩) | refine AL.st1 hF rfl rfl rfl rfl (by simp only[evO,AV.get];rfl) (by first | exact qkO | exact qkP | exact qkQ | exact qkR | exact qkS | exact qkT | exact qkU | exact qkV) (by rfl) rfl (by rfl) (by first | (simp;done) | (simp;omega) | omega) (by simp only[List.set];rfl) ?_ | refine AL.stW hF rfl rfl rfl rfl (by simp only[evO,AV.get];rfl) (by first | exact qkO | exact qkP | exact qkQ | exact qkR | exact qkS | exact qkT | exact qkU | exact qkV) (by rfl) (by rfl) (by rfl) (by first | rfl | simp) (by simp only[List.set];rfl) ?_) | (with_reducible refine Awp.id_ ?_;first | refine Awp.seq ?_ | refine Awp.regionK (by first | (simp only[AV.putO,AV.put];rfl) | rfl) (fun K hK=>?_) | refine Awp.drawE (by first | (simp only[AV.putO,AV.put];rfl) | rfl) mixed rfl (by kernel_rfl) (fun K hK=>?_) | refine Awp.block ?_ | refine Awp.skip ?_ | refine Awp.exit ?_ | refine Awp.ret ?_ | refine Awp.condT rfl ?_ | refine Awp.condF rfl ?_) | refine qoa ?_ | refine qob ?_ | refine qoc ?_ | refine qj4 ?_ | refine qj5 ?_ | refine qj6 ?_ | refine qj7 rfl ?_ | ((first | ((first | with_reducible refine AL.id_ ?_ | with_reducible refine AE.id_ ?_);(fail_if_success refine W.on rfl ?_);refine W.p rfl rfl (by simp only[AV.put];rfl) (by simp only[AV.put];rfl) (fun hb=>?_) (fun hb=>?_)) | (with_reducible refine Awp.id_ ?_;refine Awp.cond _ rfl (fun hb=>?_) (fun hb=>?_)))<;>(try simp only[z1,z2,z3,z4,z5,z6,z7,z8,y5,y6,y7,y8,z9,x1,x2,x3,x4,x5,x6,x7,x8] at hb;try (exfalso;omega)))))
  exact qCK rfl ⟨X',.inl (by rw[show ss.length=k by omega];exact List.mem_of_getElem? (i:=1) rfl)⟩
def qxK:Itr Tryz.prog:=⟨155,[T77],[T150],fun x=>qp4 x.1.2.2.2.2,fun x l h=>qDx x l h⟩
section
def qpc(n:Nat):CL Tryz.prog:=⟨[],[],0,fun _=>false⟩
def qs0(n:Nat):Nat→St→PT (DEx×St):=fun _ _=>.fail
theorem qy0(n:Nat):qbh (qpc n).c (qt Tryz.f121) 0=[]:=by kernel_rfl
theorem qy1:Tryz.f121.body=some (qt Tryz.f121):=by kernel_rfl
abbrev qp5:List Ar:=[.d T77]
abbrev qnw:List Ty:=[T77]
def qt0(n:Nat)(x:qgh qp5):Option (qR qnw):=(qfK tab (qpc n) (qs0 n) (qt Tryz.f121) 0 (qkw qp5 4 x)).run (qEq 2 155 qnw)
def qt1(n:Nat):Ct Tryz.prog:=⟨121,qp5,.fb 155 qnw,qt0 n,fun _ _ h=>qFo (B:=tab) (cs:=qpc n) (lo:=qs0 n) (i:=2) (g:=155) (caps:=qnw) Tryz.func121 (by kernel_rfl) qy1 (by kernel_rfl) (qka (qy0 n) all_nil) h⟩
def qrK(n:Nat):CL Tryz.prog:=⟨[],[],0,nof⟩
def qnx(n:Nat):Cw Tryz.prog:=mkW tab (qrK n) [] Tryz.func154 [.v (.t 1) T150,.obj (.t 0) true 125 5,.v (.c 0 0) T122,.row (.c 0 2) true T77 77,.row (.c 0 3) true T77 77,.mpi (.c 0 4) true T150 T3] 2 [[.v (.t 0) T3,.obj (.t 1) true 125 5,.v (.c 0 0) T122,.row (.c 0 2) true T77 77,.row (.c 0 3) true T77 77,.mpi (.c 0 4) true T150 T3]] (by kernel_rfl)
def qmg(n:Nat):CL Tryz.prog:=⟨[qt1 n],[qnx n],0,nof⟩
def qmh(n:Nat):LK Tryz.prog false:=mkG tab (qmg n) [] Tryz.f120 [true,false,true,false] 0 9 [10] qxK [.obj (.t 0) true 125 5,.v (.c 0 0) T122,.row (.c 0 2) true T77 77,.row (.c 0 3) true T77 77,.mpi (.c 0 4) true T150 T3,.obj (.t 2) false 117 1,.pal (.c 4 0) 0 0,.obj (.t 3) false 77 5,.v (.c 5 0) T77,.obj (.t 4) false 150 2,.v (.c 6 0) T150,.obj (.t 5) false 3 1,.v (.c 7 0) T3] [(.ret,[.obj (.t 0) true 125 5,.v (.c 0 0) T122,.row (.c 0 2) true T77 77,.row (.c 0 3) true T77 77,.mpi (.c 0 4) true T150 T3,.obj (.t 4) false 150 2,.v (.c 4 0) T150,.obj (.t 5) false 3 1,.v (.c 5 0) T3])] (by kernel_rfl)
def qmY(n:Nat):Cw Tryz.prog:=mkW tab (qmg n) [qmh n] Tryz.func120 [.v (.t 1) T77,.obj (.t 0) true 125 5,.v (.c 0 0) T122,.row (.c 0 2) true T77 77,.row (.c 0 3) true T77 77,.mpi (.c 0 4) true T150 T3] 2 [[.v (.t 0) T150,.v (.t 1) T3,.obj (.t 2) true 125 5,.v (.c 0 0) T122,.row (.c 0 2) true T77 77,.row (.c 0 3) true T77 77,.mpi (.c 0 4) true T150 T3]] (by kernel_rfl)
def qkL(n:Nat):CL Tryz.prog:=⟨[qt1 n],[qmY n],0,nof⟩
def qn2(n:Nat):LK Tryz.prog false:=mkG tab (qkL n) [] Tryz.f98 [true,true,false,true,false,false,true,true,false,false,true,true,true,true,true,false] 1 60 [61] qxK [.nilf (.t 2),.v (.t 17) T35,.v (.t 18) T3,.v (.t 19) T3,.obj (.t 7) false 117 1,.obj (.c 0 0) false 125 5,.v (.c 1 0) T122,.row (.c 1 2) false T77 77,.row (.c 1 3) false T77 77,.mpi (.c 1 4) false T150 T3,.obj (.t 9) false 77 5,.v (.c 5 0) T77] [] (by kernel_rfl)
def qn3(n:Nat):LK Tryz.prog false:=mkL tab (qkL n) [qn2 n] Tryz.f98 [true,true,false,true,false,false] 0 n [.nilf (.t 2),.v (.t 17) T35,.v (.t 18) T3,.v (.t 19) T3,.obj (.t 7) false 117 1,.obj (.c 0 0) false 125 5,.v (.c 1 0) T122,.row (.c 1 2) false T77 77,.row (.c 1 3) false T77 77,.mpi (.c 1 4) false T150 T3] [(.exit 0,[.obj (.t 7) false 117 1,.obj (.c 0 0) false 125 5,.v (.c 1 0) T122,.row (.c 1 2) false T77 77,.row (.c 1 3) false T77 77,.mpi (.c 1 4) false T150 T3])] (by kernel_rfl)
def qoQ(n:Nat):Cw Tryz.prog:=mkW tab (qkL n) [qn3 n] Tryz.func98 [.v (.t 0) T122,.v (.t 1) T35,.nilf (.t 2)] 3 [[.obj (.t 0) false 125 5,.v (.c 0 0) T122,.row (.c 0 2) false T77 77,.row (.c 0 3) false T77 77,.mpi (.c 0 4) false T150 T3]] (by kernel_rfl)
def qx0(n:Nat):CL Tryz.prog:=⟨[],[qmE n,qfd n,qky n,qdc n,qdd n],1,nof⟩
def qt2(n:Nat):Ct Tryz.prog:=mkC tab (qx0 n) [] Tryz.func99 [.d T35] [T35] (by kernel_rfl)
def qwj(n:Nat):CL Tryz.prog:=⟨[qmC n,qlq n],[],0,nof⟩
def qop(n:Nat):Cw Tryz.prog:=mkW tab (qwj n) [] Tryz.func95 [.v (.t 0) T150,.obj (.t 1) true 122 2,.v (.c 0 0) T122] 2 [[.v (.t 0) T4,.obj (.t 1) true 122 2,.v (.c 0 0) T122]] (by kernel_rfl)
def qfD(n:Nat):CL Tryz.prog:=⟨[],[qop n],0,nof⟩
def qfE(n:Nat):LK Tryz.prog false:=mkL tab (qfD n) [] Tryz.f118 [true,false,true,false,false] 0 n [.v (.t 0) T147,.v (.t 7) T3,.v (.t 8) T3,.fnc (.t 1) 95 [.box true 122 2],.v (.c 0 0) T122] [(.exit 0,[.fnc (.t 1) 95 [.box true 122 2],.v (.c 0 0) T122]),(.ret,[.v (.t 4) T3,.fnc (.t 1) 95 [.box true 122 2],.v (.c 0 0) T122])] (by kernel_rfl)
def qfN(n:Nat):Cw Tryz.prog:=mkW tab (qfD n) [qfE n] Tryz.func118 [.v (.t 0) T147,.fnc (.t 1) 95 [.box true 122 2],.v (.c 0 0) T122] 2 [[.v (.t 0) T3,.obj (.t 1) true 122 2,.v (.c 0 0) T122]] (by kernel_rfl)
def qjb(n:Nat):CL Tryz.prog:=⟨[],[qop n,qfN n],0,nof⟩
def qfp(n:Nat):Cw Tryz.prog:=mkW tab (qjb n) [] Tryz.func94 [.v (.t 0) T147,.fnc (.t 1) 95 [.box true 122 2],.v (.c 0 0) T122] 2 [[.v (.t 0) T4,.obj (.t 1) true 122 2,.v (.c 0 0) T122]] (by kernel_rfl)
def qx1(n:Nat):CL Tryz.prog:=⟨[qp3 n,qt2 n],[qfp n,qoQ n],4,nof⟩
def qt3(n:Nat):Cw Tryz.prog:=mkW tab (qx1 n) [] Tryz.func64 [.v (.t 0) T34,.v (.t 1) T35,.v (.t 2) T147] 3 [[.v (.t 1) T24,.obj (.t 0) false 125 5,.v (.c 0 0) T122,.row (.c 0 2) false T77 77,.row (.c 0 3) false T77 77,.mpi (.c 0 4) false T150 T3],[.nilp (.t 0),.v (.t 1) T24]] (by kernel_rfl)
def qvw(n:Nat):CL Tryz.prog:=⟨[],[qt3 n,qu7 n,qoP n],4,nof⟩
def qqW(n:Nat):Ct Tryz.prog:=mkC tab (qvw n) [] Tryz.func40 [.d T34,.d T35] [T22,T24] (by kernel_rfl)
end
section
end
end
end Go.Proofs.YtcjcacbhkoainaaGreatDoor
