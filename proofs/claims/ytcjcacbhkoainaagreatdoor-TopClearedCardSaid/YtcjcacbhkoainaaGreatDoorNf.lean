/- Texts DnN, DnO, DnQ, Dnz, DnV, DnW, DnX, DnY, DnL, DnZ in one. -/
import Derived.Test.YtcjcacbhkoainaaGreatDoorNe
import Derived.Test.YtcjcacbhkoainaaGreatDoorNd
import Derived.Test.YtcjcacbhkoainaaGreatDoorKa
import Derived.Test.YtcjcacbhkoainaaGreatDoorTy
/- Printed: what functions of the program compute. -/
set_option linter.constructorNameAsVariable false
set_option linter.unusedSimpArgs false
set_option linter.unusedVariables false
set_option linter.unusedSectionVars false
namespace Go.Proofs.YtcjcacbhkoainaaGreatDoor
open Go Go.Proofs Go.RowKit
set_option maxRecDepth 20000
noncomputable section
noncomputable def qyD(n:Nat):CL Tryz.prog:=⟨[],[],0,nof⟩
def qfl(n:Nat):Ct Tryz.prog:=mkC tab (qyD n) [] Tryz.func44 [.d T3,.d T3,.d T3] [T4] (by kernel_rfl)
noncomputable def qxI(n:Nat):CL Tryz.prog:=⟨[qfl n],[],0,nof⟩
def qia(n:Nat):Ct Tryz.prog:=mkC tab (qxI n) [] Tryz.func87 [.d T3] [T4] (by kernel_rfl)
noncomputable def qBC(n:Nat):CL Tryz.prog:=⟨[qfl n],[],0,nof⟩
def ql6(n:Nat):Ct Tryz.prog:=mkC tab (qBC n) [] Tryz.func82 [.d T3] [T4] (by kernel_rfl)
noncomputable def qni(n:Nat):CL Tryz.prog:=⟨[qia n],[],0,nof⟩
def qdA(n:Nat):Cw Tryz.prog:=mkW tab (qni n) [] Tryz.func109 [.v (.t 0) T3,.obj (.t 1) true 99 1,.fnc (.c 0 0) 87 []] 2 [[.v (.t 0) T4,.obj (.t 1) true 99 1,.fnc (.c 0 0) 87 []]] (by kernel_rfl)
noncomputable def qdG(n:Nat):CL Tryz.prog:=⟨[qia n],[qdA n],0,nof⟩
def qdH(n:Nat):LK Tryz.prog false:=mkL tab (qdG n) [] Tryz.f150 [true,false,true,false,false] 0 n [.v (.t 0) T22,.v (.t 7) T3,.v (.t 8) T3,.fnc (.t 1) 109 [.box true 99 1],.fnc (.c 0 0) 87 []] [(.exit 0,[.fnc (.t 1) 109 [.box true 99 1],.fnc (.c 0 0) 87 []]),(.ret,[.v (.t 4) T3,.fnc (.t 1) 109 [.box true 99 1],.fnc (.c 0 0) 87 []])] (by kernel_rfl)
def qdY(n:Nat):Cw Tryz.prog:=mkW tab (qdG n) [qdH n] Tryz.func150 [.v (.t 0) T22,.fnc (.t 1) 109 [.box true 99 1],.fnc (.c 0 0) 87 []] 2 [[.v (.t 0) T3,.obj (.t 1) true 99 1,.fnc (.c 0 0) 87 []]] (by kernel_rfl)
noncomputable def qg3(n:Nat):CL Tryz.prog:=⟨[qia n],[qdA n,qdY n],0,nof⟩
def qdl(n:Nat):Cw Tryz.prog:=mkW tab (qg3 n) [] Tryz.func108 [.v (.t 0) T22,.fnc (.t 1) 109 [.box true 99 1],.fnc (.c 0 0) 87 []] 2 [[.v (.t 0) T4,.obj (.t 1) true 99 1,.fnc (.c 0 0) 87 []]] (by kernel_rfl)
noncomputable def qnK(n:Nat):CL Tryz.prog:=⟨[qia n],[qdl n],0,nof⟩
def qji(n:Nat):Cw Tryz.prog:=mkW tab (qnK n) [] Tryz.func81 [.v (.t 0) T22,.fn (.t 1) 87 [] []] 2 [[.v (.t 0) T4]] (by kernel_rfl)
noncomputable def qoC(n:Nat):CL Tryz.prog:=⟨[ql6 n],[],0,nof⟩
def qgR(n:Nat):Cw Tryz.prog:=mkW tab (qoC n) [] Tryz.func109 [.v (.t 0) T3,.obj (.t 1) true 99 1,.fnc (.c 0 0) 82 []] 2 [[.v (.t 0) T4,.obj (.t 1) true 99 1,.fnc (.c 0 0) 82 []]] (by kernel_rfl)
noncomputable def qel(n:Nat):CL Tryz.prog:=⟨[ql6 n],[qgR n],0,nof⟩
def qem(n:Nat):LK Tryz.prog false:=mkL tab (qel n) [] Tryz.f150 [true,false,true,false,false] 0 n [.v (.t 0) T22,.v (.t 7) T3,.v (.t 8) T3,.fnc (.t 1) 109 [.box true 99 1],.fnc (.c 0 0) 82 []] [(.exit 0,[.fnc (.t 1) 109 [.box true 99 1],.fnc (.c 0 0) 82 []]),(.ret,[.v (.t 4) T3,.fnc (.t 1) 109 [.box true 99 1],.fnc (.c 0 0) 82 []])] (by kernel_rfl)
def qex(n:Nat):Cw Tryz.prog:=mkW tab (qel n) [qem n] Tryz.func150 [.v (.t 0) T22,.fnc (.t 1) 109 [.box true 99 1],.fnc (.c 0 0) 82 []] 2 [[.v (.t 0) T3,.obj (.t 1) true 99 1,.fnc (.c 0 0) 82 []]] (by kernel_rfl)
noncomputable def qhD(n:Nat):CL Tryz.prog:=⟨[ql6 n],[qdA n,qgR n,qex n],0,nof⟩
def qd6(n:Nat):Cw Tryz.prog:=mkW tab (qhD n) [] Tryz.func108 [.v (.t 0) T22,.fnc (.t 1) 109 [.box true 99 1],.fnc (.c 0 0) 82 []] 2 [[.v (.t 0) T4,.obj (.t 1) true 99 1,.fnc (.c 0 0) 82 []]] (by kernel_rfl)
noncomputable def qpn(n:Nat):CL Tryz.prog:=⟨[ql6 n],[qd6 n],0,nof⟩
def qk0(n:Nat):Cw Tryz.prog:=mkW tab (qpn n) [] Tryz.func81 [.v (.t 0) T22,.fn (.t 1) 82 [] []] 2 [[.v (.t 0) T4]] (by kernel_rfl)
noncomputable def qsN(n:Nat):CL Tryz.prog:=⟨[],[qji n],0,nof⟩
def qsO(n:Nat):LK Tryz.prog false:=mkL tab (qsN n) [] Tryz.f77 [true,true,false,true,false,false] 0 n [.v (.t 0) T22,.v (.t 3) T3,.v (.t 6) T22,.v (.t 7) T3,.v (.t 8) T3] [(.exit 0,[.v (.t 0) T22,.v (.t 3) T3])] (by kernel_rfl)
def qtI(n:Nat):Ct Tryz.prog:=mkC tab (qsN n) [qsO n] Tryz.func77 [.d T22] [T4] (by kernel_rfl)
noncomputable def qwM(n:Nat):CL Tryz.prog:=⟨[qfl n],[],0,nof⟩
def qcQ(n:Nat):Cw Tryz.prog:=mkW tab (qwM n) [] Tryz.func75 [.v (.t 0) T3,.obj (.t 1) true 41 13,.v (.c 0 0) T41] 2 [[.v (.t 0) T4,.obj (.t 1) true 41 13,.v (.c 0 0) T41]] (by kernel_rfl)
noncomputable def qwN(n:Nat):CL Tryz.prog:=⟨[qtI n],[],0,nof⟩
def qjj(n:Nat):Cw Tryz.prog:=mkW tab (qwN n) [] Tryz.func76 [.v (.t 0) T22,.obj (.t 1) true 41 13,.v (.c 0 0) T41] 2 [[.v (.t 0) T4,.obj (.t 1) true 41 13,.v (.c 0 0) T41]] (by kernel_rfl)
noncomputable def qwO(n:Nat):CL Tryz.prog:=⟨[qfl n],[],0,nof⟩
def qjk(n:Nat):Cw Tryz.prog:=mkW tab (qwO n) [] Tryz.func78 [.v (.t 0) T95,.obj (.t 1) true 136 1,.mpi (.c 0 0) true T3 T3,.obj (.t 2) true 41 13,.v (.c 2 0) T41] 3 [[.v (.t 0) T4,.obj (.t 1) true 136 1,.mpi (.c 0 0) true T3 T3,.obj (.t 3) true 41 13,.v (.c 2 0) T41]] (by kernel_rfl)
noncomputable def qoD(n:Nat):CL Tryz.prog:=⟨[],[qcQ n],0,nof⟩
def qc5(n:Nat):Cw Tryz.prog:=mkW tab (qoD n) [] Tryz.func79 [.v (.t 0) T43,.obj (.t 1) true 99 1,.fnc (.c 0 0) 75 [.box true 41 13],.v (.c 1 0) T41] 2 [[.v (.t 0) T4,.obj (.t 1) true 99 1,.fnc (.c 0 0) 75 [.box true 41 13],.v (.c 1 0) T41]] (by kernel_rfl)
noncomputable def qoE(n:Nat):CL Tryz.prog:=⟨[qfl n],[qcQ n],0,nof⟩
def qc6(n:Nat):Cw Tryz.prog:=mkW tab (qoE n) [] Tryz.func80 [.v (.t 0) T90,.obj (.t 1) true 99 1,.obj (.t 2) true 41 13,.v (.c 1 0) T41,.fnc (.c 0 0) 75 [.al 1]] 3 [[.v (.t 0) T4,.obj (.t 1) true 99 1,.obj (.t 2) true 41 13,.v (.c 1 0) T41,.fnc (.c 0 0) 75 [.al 1]]] (by kernel_rfl)
noncomputable def qnj(n:Nat):CL Tryz.prog:=⟨[],[qjj n],0,nof⟩
def qfC(n:Nat):Cw Tryz.prog:=mkW tab (qnj n) [] Tryz.func111 [.v (.t 0) T22,.obj (.t 1) true 31 1,.fnc (.c 0 0) 76 [.box true 41 13],.v (.c 1 0) T41] 2 [[.v (.t 0) T4,.obj (.t 1) true 31 1,.fnc (.c 0 0) 76 [.box true 41 13],.v (.c 1 0) T41]] (by kernel_rfl)
noncomputable def qdI(n:Nat):CL Tryz.prog:=⟨[],[qjj n,qfC n],0,nof⟩
def qdJ(n:Nat):LK Tryz.prog false:=mkL tab (qdI n) [] Tryz.f151 [true,false,true,false,false] 0 n [.v (.t 0) T36,.v (.t 7) T3,.v (.t 8) T3,.fnc (.t 1) 111 [.box true 31 1],.fnc (.c 0 0) 76 [.box true 41 13],.v (.c 1 0) T41] [(.exit 0,[.fnc (.t 1) 111 [.box true 31 1],.fnc (.c 0 0) 76 [.box true 41 13],.v (.c 1 0) T41]),(.ret,[.v (.t 4) T3,.fnc (.t 1) 111 [.box true 31 1],.fnc (.c 0 0) 76 [.box true 41 13],.v (.c 1 0) T41])] (by kernel_rfl)
def qdZ(n:Nat):Cw Tryz.prog:=mkW tab (qdI n) [qdJ n] Tryz.func151 [.v (.t 0) T36,.fnc (.t 1) 111 [.box true 31 1],.fnc (.c 0 0) 76 [.box true 41 13],.v (.c 1 0) T41] 2 [[.v (.t 0) T3,.obj (.t 1) true 31 1,.fnc (.c 0 0) 76 [.box true 41 13],.v (.c 1 0) T41]] (by kernel_rfl)
noncomputable def qg4(n:Nat):CL Tryz.prog:=⟨[],[qjj n,qfC n,qdZ n],0,nof⟩
def qdm(n:Nat):Cw Tryz.prog:=mkW tab (qg4 n) [] Tryz.func110 [.v (.t 0) T36,.fnc (.t 1) 111 [.box true 31 1],.fnc (.c 0 0) 76 [.box true 41 13],.v (.c 1 0) T41] 2 [[.v (.t 0) T4,.obj (.t 1) true 31 1,.fnc (.c 0 0) 76 [.box true 41 13],.v (.c 1 0) T41]] (by kernel_rfl)
noncomputable def qnL(n:Nat):CL Tryz.prog:=⟨[],[qjj n,qdm n],0,nof⟩
def qjl(n:Nat):Cw Tryz.prog:=mkW tab (qnL n) [] Tryz.func83 [.v (.t 0) T36,.fnc (.t 1) 76 [.box true 41 13],.v (.c 0 0) T41] 2 [[.v (.t 0) T4,.obj (.t 1) true 41 13,.v (.c 0 0) T41]] (by kernel_rfl)
noncomputable def qlx(n:Nat):CL Tryz.prog:=⟨[],[qjk n],0,nof⟩
def qen(n:Nat):Cw Tryz.prog:=mkW tab (qlx n) [] Tryz.func113 [.v (.t 0) T95,.obj (.t 1) true 137 1,.fnc (.c 0 0) 78 [.box true 136 1,.box true 41 13],.mpi (.c 1 0) true T3 T3,.v (.c 2 0) T41] 2 [[.v (.t 0) T4,.obj (.t 1) true 137 1,.fnc (.c 0 0) 78 [.box true 136 1,.box true 41 13],.mpi (.c 1 0) true T3 T3,.v (.c 2 0) T41]] (by kernel_rfl)
noncomputable def qcD(n:Nat):CL Tryz.prog:=⟨[],[qjk n,qen n],0,nof⟩
def qcE(n:Nat):LK Tryz.prog false:=mkL tab (qcD n) [] Tryz.f152 [true,false,true,false,false] 0 n [.v (.t 0) T37,.v (.t 7) T3,.v (.t 8) T3,.fnc (.t 1) 113 [.box true 137 1],.fnc (.c 0 0) 78 [.box true 136 1,.box true 41 13],.mpi (.c 1 0) true T3 T3,.v (.c 2 0) T41] [(.exit 0,[.fnc (.t 1) 113 [.box true 137 1],.fnc (.c 0 0) 78 [.box true 136 1,.box true 41 13],.mpi (.c 1 0) true T3 T3,.v (.c 2 0) T41]),(.ret,[.v (.t 4) T3,.fnc (.t 1) 113 [.box true 137 1],.fnc (.c 0 0) 78 [.box true 136 1,.box true 41 13],.mpi (.c 1 0) true T3 T3,.v (.c 2 0) T41])] (by kernel_rfl)
def qcN(n:Nat):Cw Tryz.prog:=mkW tab (qcD n) [qcE n] Tryz.func152 [.v (.t 0) T37,.fnc (.t 1) 113 [.box true 137 1],.fnc (.c 0 0) 78 [.box true 136 1,.box true 41 13],.mpi (.c 1 0) true T3 T3,.v (.c 2 0) T41] 2 [[.v (.t 0) T3,.obj (.t 1) true 137 1,.fnc (.c 0 0) 78 [.box true 136 1,.box true 41 13],.mpi (.c 1 0) true T3 T3,.v (.c 2 0) T41]] (by kernel_rfl)
noncomputable def qfo(n:Nat):CL Tryz.prog:=⟨[],[qjk n,qen n,qcN n],0,nof⟩
def qct(n:Nat):Cw Tryz.prog:=mkW tab (qfo n) [] Tryz.func112 [.v (.t 0) T37,.fnc (.t 1) 113 [.box true 137 1],.fnc (.c 0 0) 78 [.box true 136 1,.box true 41 13],.mpi (.c 1 0) true T3 T3,.v (.c 2 0) T41] 2 [[.v (.t 0) T4,.obj (.t 1) true 137 1,.fnc (.c 0 0) 78 [.box true 136 1,.box true 41 13],.mpi (.c 1 0) true T3 T3,.v (.c 2 0) T41]] (by kernel_rfl)
noncomputable def ql8(n:Nat):CL Tryz.prog:=⟨[],[qjk n,qct n],0,nof⟩
def qhC(n:Nat):Cw Tryz.prog:=mkW tab (ql8 n) [] Tryz.func84 [.v (.t 0) T37,.fnc (.t 1) 78 [.box true 136 1,.box true 41 13],.mpi (.c 0 0) true T3 T3,.v (.c 1 0) T41] 2 [[.v (.t 0) T4,.obj (.t 1) true 136 1,.obj (.t 2) true 41 13,.mpi (.c 0 0) true T3 T3,.v (.c 1 0) T41]] (by kernel_rfl)
noncomputable def qhS(n:Nat):CL Tryz.prog:=⟨[],[qcQ n,qc5 n],0,nof⟩
def qcf(n:Nat):Cw Tryz.prog:=mkW tab (qhS n) [] Tryz.func114 [.v (.t 0) T43,.obj (.t 1) true 138 1,.fnc (.c 0 0) 79 [.box true 99 1],.fnc (.c 1 0) 75 [.box true 41 13],.v (.c 2 0) T41] 2 [[.v (.t 0) T4,.obj (.t 1) true 138 1,.fnc (.c 0 0) 79 [.box true 99 1],.fnc (.c 1 0) 75 [.box true 41 13],.v (.c 2 0) T41]] (by kernel_rfl)
noncomputable def qbA(n:Nat):CL Tryz.prog:=⟨[],[qcQ n,qc5 n,qcf n],0,nof⟩
def qbB(n:Nat):LK Tryz.prog false:=mkL tab (qbA n) [] Tryz.f117 [true,false,true,false,false] 0 n [.v (.t 0) T38,.v (.t 7) T3,.v (.t 8) T3,.fnc (.t 1) 114 [.box true 138 1],.fnc (.c 0 0) 79 [.box true 99 1],.fnc (.c 1 0) 75 [.box true 41 13],.v (.c 2 0) T41] [(.exit 0,[.fnc (.t 1) 114 [.box true 138 1],.fnc (.c 0 0) 79 [.box true 99 1],.fnc (.c 1 0) 75 [.box true 41 13],.v (.c 2 0) T41]),(.ret,[.v (.t 4) T3,.fnc (.t 1) 114 [.box true 138 1],.fnc (.c 0 0) 79 [.box true 99 1],.fnc (.c 1 0) 75 [.box true 41 13],.v (.c 2 0) T41])] (by kernel_rfl)
def qW(n:Nat):Cw Tryz.prog:=mkW tab (qbA n) [qbB n] Tryz.func117 [.v (.t 0) T38,.fnc (.t 1) 114 [.box true 138 1],.fnc (.c 0 0) 79 [.box true 99 1],.fnc (.c 1 0) 75 [.box true 41 13],.v (.c 2 0) T41] 2 [[.v (.t 0) T3,.obj (.t 1) true 138 1,.fnc (.c 0 0) 79 [.box true 99 1],.fnc (.c 1 0) 75 [.box true 41 13],.v (.c 2 0) T41]] (by kernel_rfl)
noncomputable def qdQ(n:Nat):CL Tryz.prog:=⟨[],[qcQ n,qc5 n,qcf n,qW n],0,nof⟩
def qP(n:Nat):Cw Tryz.prog:=mkW tab (qdQ n) [] Tryz.func89 [.v (.t 0) T38,.fnc (.t 1) 114 [.box true 138 1],.fnc (.c 0 0) 79 [.box true 99 1],.fnc (.c 1 0) 75 [.box true 41 13],.v (.c 2 0) T41] 2 [[.v (.t 0) T4,.obj (.t 1) true 138 1,.fnc (.c 0 0) 79 [.box true 99 1],.fnc (.c 1 0) 75 [.box true 41 13],.v (.c 2 0) T41]] (by kernel_rfl)
noncomputable def qio(n:Nat):CL Tryz.prog:=⟨[],[qcQ n,qc5 n,qP n],0,nof⟩
def qey(n:Nat):Cw Tryz.prog:=mkW tab (qio n) [] Tryz.func85 [.v (.t 0) T38,.fnc (.t 1) 79 [.box true 99 1],.fnc (.c 0 0) 75 [.box true 41 13],.v (.c 1 0) T41] 2 [[.v (.t 0) T4,.obj (.t 1) true 99 1,.fnc (.c 0 0) 75 [.box true 41 13],.v (.c 1 0) T41]] (by kernel_rfl)
noncomputable def qhY(n:Nat):CL Tryz.prog:=⟨[],[qcQ n,qc6 n],0,nof⟩
def qcq(n:Nat):Cw Tryz.prog:=mkW tab (qhY n) [] Tryz.func116 [.v (.t 0) T90,.obj (.t 1) true 139 1,.fnc (.c 0 0) 80 [.box true 99 1,.box true 41 13],.fnc (.c 1 0) 75 [.al 2],.v (.c 2 0) T41] 2 [[.v (.t 0) T4,.obj (.t 1) true 139 1,.fnc (.c 0 0) 80 [.box true 99 1,.box true 41 13],.fnc (.c 1 0) 75 [.al 2],.v (.c 2 0) T41]] (by kernel_rfl)
noncomputable def qbN(n:Nat):CL Tryz.prog:=⟨[],[qcQ n,qc6 n,qcq n],0,nof⟩
def qbO(n:Nat):LK Tryz.prog false:=mkL tab (qbN n) [] Tryz.f153 [true,false,true,false,false] 0 n [.v (.t 0) T39,.v (.t 7) T3,.v (.t 8) T3,.fnc (.t 1) 116 [.box true 139 1],.fnc (.c 0 0) 80 [.box true 99 1,.box true 41 13],.fnc (.c 1 0) 75 [.al 2],.v (.c 2 0) T41] [(.exit 0,[.fnc (.t 1) 116 [.box true 139 1],.fnc (.c 0 0) 80 [.box true 99 1,.box true 41 13],.fnc (.c 1 0) 75 [.al 2],.v (.c 2 0) T41]),(.ret,[.v (.t 4) T3,.fnc (.t 1) 116 [.box true 139 1],.fnc (.c 0 0) 80 [.box true 99 1,.box true 41 13],.fnc (.c 1 0) 75 [.al 2],.v (.c 2 0) T41])] (by kernel_rfl)
def qbQ(n:Nat):Cw Tryz.prog:=mkW tab (qbN n) [qbO n] Tryz.func153 [.v (.t 0) T39,.fnc (.t 1) 116 [.box true 139 1],.fnc (.c 0 0) 80 [.box true 99 1,.box true 41 13],.fnc (.c 1 0) 75 [.al 2],.v (.c 2 0) T41] 2 [[.v (.t 0) T3,.obj (.t 1) true 139 1,.fnc (.c 0 0) 80 [.box true 99 1,.box true 41 13],.fnc (.c 1 0) 75 [.al 2],.v (.c 2 0) T41]] (by kernel_rfl)
noncomputable def qd7(n:Nat):CL Tryz.prog:=⟨[],[qcQ n,qc6 n,qcq n,qbQ n],0,nof⟩
def qbC(n:Nat):Cw Tryz.prog:=mkW tab (qd7 n) [] Tryz.func115 [.v (.t 0) T39,.fnc (.t 1) 116 [.box true 139 1],.fnc (.c 0 0) 80 [.box true 99 1,.box true 41 13],.fnc (.c 1 0) 75 [.al 2],.v (.c 2 0) T41] 2 [[.v (.t 0) T4,.obj (.t 1) true 139 1,.fnc (.c 0 0) 80 [.box true 99 1,.box true 41 13],.fnc (.c 1 0) 75 [.al 2],.v (.c 2 0) T41]] (by kernel_rfl)
noncomputable def qiA(n:Nat):CL Tryz.prog:=⟨[],[qcQ n,qc6 n,qbC n],0,nof⟩
def qeE(n:Nat):Cw Tryz.prog:=mkW tab (qiA n) [] Tryz.func86 [.v (.t 0) T39,.fnc (.t 1) 80 [.box true 99 1,.box true 41 13],.fnc (.c 0 0) 75 [.al 1],.v (.c 1 0) T41] 2 [[.v (.t 0) T4,.obj (.t 1) true 99 1,.obj (.t 2) true 41 13,.fnc (.c 0 0) 75 [.al 1],.v (.c 1 0) T41]] (by kernel_rfl)
noncomputable def qzj(n:Nat):CL Tryz.prog:=⟨[qfl n,qrU n,ql6 n,qia n],[qk0 n,qjl n,qhC n,qey n,qeE n],0,nof⟩
def qu4(n:Nat):Ct Tryz.prog:=mkC tab (qzj n) [] Tryz.func56 [.d T41] [T24] (by kernel_rfl)
noncomputable def qxJ(n:Nat):CL Tryz.prog:=⟨[],[],0,nof⟩
def qsP(n:Nat):Cw Tryz.prog:=mkW tab (qxJ n) [] Tryz.func57 [.v (.t 0) T77,.obj (.t 1) true 3 1,.v (.c 0 0) T3] 2 [[.v (.t 0) T4,.obj (.t 1) true 3 1,.v (.c 0 0) T3]] (by kernel_rfl)
noncomputable def qfZ(n:Nat):CL Tryz.prog:=⟨[],[qsP n],0,nof⟩
def qf0(n:Nat):LK Tryz.prog false:=mkL tab (qfZ n) [] Tryz.f33 [true,false,true,false,false] 0 n [.v (.t 0) T35,.v (.t 7) T3,.v (.t 8) T3,.fnc (.t 1) 57 [.box true 3 1],.v (.c 0 0) T3] [(.exit 0,[.fnc (.t 1) 57 [.box true 3 1],.v (.c 0 0) T3]),(.ret,[.v (.t 4) T3,.fnc (.t 1) 57 [.box true 3 1],.v (.c 0 0) T3])] (by kernel_rfl)
def qds(n:Nat):Cw Tryz.prog:=mkW tab (qfZ n) [qf0 n] Tryz.func33 [.v (.t 0) T35,.fnc (.t 1) 57 [.box true 3 1],.v (.c 0 0) T3] 2 [[.v (.t 0) T3,.obj (.t 1) true 3 1,.v (.c 0 0) T3]] (by kernel_rfl)
noncomputable def qtJ(n:Nat):CL Tryz.prog:=⟨[qo0 n,qu4 n],[qbc n,qY n,qbo n,qds n],0,nof⟩
def qtK(n:Nat):LK Tryz.prog false:=mkL tab (qtJ n) [] Tryz.f32 [true,true,true,true,false,true,false,false] 0 n [.v (.t 27) T22,.v (.t 28) T3,.v (.t 29) T3,.obj (.t 1) false 41 13,.v (.c 0 0) T41,.obj (.t 5) false 79 14,.v (.c 1 0) T41,.row (.c 1 13) false T77 77] [(.exit 0,[.obj (.t 5) false 79 14,.v (.c 0 0) T41,.row (.c 0 13) false T77 77])] (by kernel_rfl)
def qnY(n:Nat):Cw Tryz.prog:=mkW tab (qtJ n) [qtK n] Tryz.func32 [.v (.t 0) T41] 1 [[.v (.t 1) T24,.obj (.t 0) false 79 14,.v (.c 0 0) T41,.row (.c 0 13) false T77 77],[.nilp (.t 0),.v (.t 1) T24]] (by kernel_rfl)
noncomputable def qnM(n:Nat):CL Tryz.prog:=⟨[],[],0,nof⟩
def qnN(n:Nat):LK Tryz.prog false:=mkL tab (qnM n) [] Tryz.f58 [true,false,true,false,false] 0 n [.v (.t 1) T3,.v (.t 11) T37,.v (.t 12) T3,.v (.t 13) T3,.obj (.t 0) true 79 14,.v (.c 0 0) T79,.obj (.t 4) false 95 3,.v (.c 1 0) T95] [(.exit 0,[.v (.t 1) T3,.obj (.t 0) true 79 14,.v (.c 0 0) T79,.obj (.t 4) false 95 3,.v (.c 1 0) T95]),(.ret,[.obj (.t 0) true 79 14,.v (.c 0 0) T79,.obj (.t 4) false 95 3,.v (.c 1 0) T95])] (by kernel_rfl)
def qos(n:Nat):Cw Tryz.prog:=mkW tab (qnM n) [qnN n] Tryz.func58 [.v (.t 1) T3,.obj (.t 0) true 79 14,.v (.c 0 0) T79] 2 [[.v (.t 0) T95,.obj (.t 1) true 79 14,.v (.c 0 0) T79]] (by kernel_rfl)
noncomputable def qtL(n:Nat):CL Tryz.prog:=⟨[],[],0,nof⟩
def qly(n:Nat):Cw Tryz.prog:=mkW tab (qtL n) [] Tryz.func88 [.v (.t 1) T3,.v (.t 2) T3,.obj (.t 0) true 79 14,.v (.c 0 0) T79] 3 [[.v (.t 0) T4,.obj (.t 1) true 79 14,.v (.c 0 0) T79]] (by kernel_rfl)
noncomputable def qqx(n:Nat):CL Tryz.prog:=⟨[],[qly n],0,nof⟩
def qf6(n:Nat):Cw Tryz.prog:=mkW tab (qqx n) [] Tryz.func90 [.v (.t 0) T43,.obj (.t 1) true 3 1,.v (.c 0 0) T3,.obj (.t 2) true 71 1,.obj (.c 1 0) true 79 14,.v (.c 2 0) T79,.obj (.t 3) true 3 1,.v (.c 3 0) T3] 4 [[.v (.t 0) T4,.obj (.t 1) true 3 1,.v (.c 0 0) T3,.obj (.t 2) true 71 1,.obj (.c 1 0) true 79 14,.v (.c 2 0) T79,.obj (.t 4) true 3 1,.v (.c 3 0) T3]] (by kernel_rfl)
noncomputable def qee(n:Nat):CL Tryz.prog:=⟨[],[qf6 n],0,nof⟩
def qef(n:Nat):LK Tryz.prog false:=mkL tab (qee n) [] Tryz.f117 [true,false,true,false,false] 0 n [.v (.t 0) T38,.v (.t 7) T3,.v (.t 8) T3,.fnc (.t 1) 90 [.box true 3 1,.box true 71 1,.box true 3 1],.v (.c 0 0) T3,.obj (.c 1 0) true 79 14,.v (.c 3 0) T79,.v (.c 2 0) T3] [(.exit 0,[.fnc (.t 1) 90 [.box true 3 1,.box true 71 1,.box true 3 1],.v (.c 0 0) T3,.obj (.c 1 0) true 79 14,.v (.c 3 0) T79,.v (.c 2 0) T3]),(.ret,[.v (.t 4) T3,.fnc (.t 1) 90 [.box true 3 1,.box true 71 1,.box true 3 1],.v (.c 0 0) T3,.obj (.c 1 0) true 79 14,.v (.c 3 0) T79,.v (.c 2 0) T3])] (by kernel_rfl)
def qeo(n:Nat):Cw Tryz.prog:=mkW tab (qee n) [qef n] Tryz.func117 [.v (.t 0) T38,.fnc (.t 1) 90 [.box true 3 1,.box true 71 1,.box true 3 1],.v (.c 0 0) T3,.obj (.c 1 0) true 79 14,.v (.c 3 0) T79,.v (.c 2 0) T3] 2 [[.v (.t 0) T3,.obj (.t 1) true 3 1,.obj (.t 2) true 71 1,.obj (.t 3) true 3 1,.v (.c 0 0) T3,.obj (.c 1 0) true 79 14,.v (.c 3 0) T79,.v (.c 2 0) T3]] (by kernel_rfl)
noncomputable def qhv(n:Nat):CL Tryz.prog:=⟨[],[qf6 n,qW n,qeo n],0,nof⟩
def qd0(n:Nat):Cw Tryz.prog:=mkW tab (qhv n) [] Tryz.func89 [.v (.t 0) T38,.fnc (.t 1) 90 [.box true 3 1,.box true 71 1,.box true 3 1],.v (.c 0 0) T3,.obj (.c 1 0) true 79 14,.v (.c 3 0) T79,.v (.c 2 0) T3] 2 [[.v (.t 0) T4,.obj (.t 1) true 3 1,.obj (.t 2) true 71 1,.obj (.t 3) true 3 1,.v (.c 0 0) T3,.obj (.c 1 0) true 79 14,.v (.c 3 0) T79,.v (.c 2 0) T3]] (by kernel_rfl)
noncomputable def qrq(n:Nat):CL Tryz.prog:=⟨[],[qly n,qP n,qd0 n],0,nof⟩
def qmQ(n:Nat):Cw Tryz.prog:=mkW tab (qrq n) [] Tryz.func59 [.v (.t 1) T3,.v (.t 2) T3,.obj (.t 0) true 79 14,.v (.c 0 0) T79] 3 [[.v (.t 0) T4,.obj (.t 1) true 79 14,.v (.c 0 0) T79]] (by kernel_rfl)
noncomputable def qCr(n:Nat):CL Tryz.prog:=⟨[],[],0,nof⟩
def quH(n:Nat):Ct Tryz.prog:=mkC tab (qCr n) [] Tryz.func60 [.d T3,.d T3] [T3] (by kernel_rfl)
noncomputable def qtM(n:Nat):CL Tryz.prog:=⟨[quH n],[qos n,qmQ n],0,nof⟩
def qlz(n:Nat):Cw Tryz.prog:=mkW tab (qtM n) [] Tryz.func35 [.v (.t 1) T77,.v (.t 2) T84,.obj (.t 0) true 79 14,.v (.c 0 0) T79] 3 [[.v (.t 0) T3,.v (.t 1) T3,.obj (.t 2) true 79 14,.v (.c 0 0) T79]] (by kernel_rfl)
noncomputable def qwP(n:Nat):CL Tryz.prog:=⟨[],[],0,nof⟩
def qrX(n:Nat):Cw Tryz.prog:=mkW tab (qwP n) [] Tryz.func34 [.v (.t 0) T77,.obj (.t 1) true 3 1,.v (.c 0 0) T3] 2 [[.v (.t 0) T4,.obj (.t 1) true 3 1,.v (.c 0 0) T3]] (by kernel_rfl)
noncomputable def qfL(n:Nat):CL Tryz.prog:=⟨[],[qrX n],0,nof⟩
def qfM(n:Nat):LK Tryz.prog false:=mkL tab (qfL n) [] Tryz.f33 [true,false,true,false,false] 0 n [.v (.t 0) T35,.v (.t 7) T3,.v (.t 8) T3,.fnc (.t 1) 34 [.box true 3 1],.v (.c 0 0) T3] [(.exit 0,[.fnc (.t 1) 34 [.box true 3 1],.v (.c 0 0) T3]),(.ret,[.v (.t 4) T3,.fnc (.t 1) 34 [.box true 3 1],.v (.c 0 0) T3])] (by kernel_rfl)
def qf1(n:Nat):Cw Tryz.prog:=mkW tab (qfL n) [qfM n] Tryz.func33 [.v (.t 0) T35,.fnc (.t 1) 34 [.box true 3 1],.v (.c 0 0) T3] 2 [[.v (.t 0) T3,.obj (.t 1) true 3 1,.v (.c 0 0) T3]] (by kernel_rfl)
noncomputable def qtN(n:Nat):CL Tryz.prog:=⟨[],[qnY n,qbc n,qY n,qbo n,qds n,qf1 n,qlz n],2,nof⟩
def qtO(n:Nat):LK Tryz.prog false:=mkL tab (qtN n) [] Tryz.f15 [true,true,true,true,true,false,true,false,false] 0 n [.v (.t 4) T3,.v (.t 5) T3,.v (.t 8) T3,.v (.t 36) T75,.v (.t 37) T3,.v (.t 38) T3,.obj (.t 7) false 79 14,.v (.c 0 0) T79] [(.exit 0,[.v (.t 4) T3,.v (.t 5) T3])] (by kernel_rfl)
def qu5(n:Nat):Ct Tryz.prog:=mkC tab (qtN n) [qtO n] Tryz.func15 [.d T41,.d T3] [T3,T3,T24] (by kernel_rfl)
end
noncomputable section
noncomputable def qwQ(n:Nat):CL Tryz.prog:=⟨[qg1 n],[],0,nof⟩
def qlA(n:Nat):Cw Tryz.prog:=mkW tab (qwQ n) [] Tryz.func68 [.v (.t 0) T3,.v (.t 1) T3,.obj (.t 2) true 3 1,.v (.c 0 0) T3,.obj (.t 3) true 22 1,.v (.c 1 0) T22] 4 [[.v (.t 0) T3,.obj (.t 1) true 3 1,.v (.c 0 0) T3,.obj (.t 2) true 22 1,.v (.c 1 0) T22]] (by kernel_rfl)
noncomputable def qcK(n:Nat):CL Tryz.prog:=⟨[],[qlA n],0,nof⟩
def qeQ(n:Nat):LK Tryz.prog false:=mkL tab (qcK n) [] Tryz.f142 [true,false,false,true,false,false,true,false,false] 1 n [.v (.t 1) T3,.v (.t 2) T3,.v (.t 8) T3,.v (.t 9) T3,.row (.t 0) true T3 3,.fnc (.t 3) 68 [.box true 3 1,.box true 22 1],.v (.c 1 0) T3,.v (.c 2 0) T22] [(.exit 2,[.v (.t 1) T3,.v (.t 2) T3,.v (.t 8) T3,.row (.t 0) true T3 3,.fnc (.t 3) 68 [.box true 3 1,.box true 22 1],.v (.c 1 0) T3,.v (.c 2 0) T22])] (by kernel_rfl)
def qeR(n:Nat):LK Tryz.prog false:=mkL tab (qcK n) [qeQ n] Tryz.f142 [true,false,false] 0 n [.v (.t 1) T3,.v (.t 2) T3,.v (.t 8) T3,.row (.t 0) true T3 3,.fnc (.t 3) 68 [.box true 3 1,.box true 22 1],.v (.c 1 0) T3,.v (.c 2 0) T22] [(.exit 0,[.row (.t 0) true T3 3,.fnc (.t 3) 68 [.box true 3 1,.box true 22 1],.v (.c 1 0) T3,.v (.c 2 0) T22])] (by kernel_rfl)
def qe6(n:Nat):Cw Tryz.prog:=mkW tab (qcK n) [qeR n] Tryz.func142 [.v (.t 1) T3,.v (.t 2) T3,.row (.t 0) true T3 3,.fnc (.t 3) 68 [.box true 3 1,.box true 22 1],.v (.c 1 0) T3,.v (.c 2 0) T22] 4 [[.row (.t 0) true T3 3,.obj (.t 1) true 3 1,.obj (.t 2) true 22 1,.v (.c 1 0) T3,.v (.c 2 0) T22]] (by kernel_rfl)
noncomputable def qcl(n:Nat):CL Tryz.prog:=⟨[],[qlA n,qe6 n],0,nof⟩
def qgo(n:Nat):LK Tryz.prog false:=mkL tab (qcl n) [] Tryz.f102 [true,true,false,false,false] 0 n [.v (.t 1) T3,.v (.t 6) T3,.v (.t 7) T3,.v (.t 8) T3,.row (.t 0) true T3 3,.fnc (.t 2) 68 [.box true 3 1,.box true 22 1],.v (.c 1 0) T3,.v (.c 2 0) T22] [(.exit 0,[.v (.t 1) T3,.v (.t 6) T3,.v (.t 7) T3,.row (.t 0) true T3 3,.fnc (.t 2) 68 [.box true 3 1,.box true 22 1],.v (.c 1 0) T3,.v (.c 2 0) T22])] (by kernel_rfl)
def qgp(n:Nat):LK Tryz.prog false:=mkL tab (qcl n) [] Tryz.f102 [true,true,true,true,false,false,true,false,true,false,false,false] 2 n [.v (.t 1) T3,.v (.t 6) T3,.v (.t 7) T3,.v (.t 8) T3,.row (.t 0) true T3 3,.fnc (.t 2) 68 [.box true 3 1,.box true 22 1],.v (.c 1 0) T3,.v (.c 2 0) T22] [(.exit 4,[.v (.t 1) T3,.v (.t 6) T3,.v (.t 7) T3,.row (.t 0) true T3 3,.fnc (.t 2) 68 [.box true 3 1,.box true 22 1],.v (.c 1 0) T3,.v (.c 2 0) T22])] (by kernel_rfl)
def qgq(n:Nat):LK Tryz.prog false:=mkL tab (qcl n) [qgp n] Tryz.f102 [true,true,true,true,false,false] 1 n [.v (.t 1) T3,.v (.t 6) T3,.row (.t 0) true T3 3,.fnc (.t 2) 68 [.box true 3 1,.box true 22 1],.v (.c 1 0) T3,.v (.c 2 0) T22] [(.exit 2,[.row (.t 0) true T3 3,.fnc (.t 2) 68 [.box true 3 1,.box true 22 1],.v (.c 1 0) T3,.v (.c 2 0) T22])] (by kernel_rfl)
def qgC(n:Nat):Cw Tryz.prog:=mkW tab (qcl n) [qgo n,qgq n] Tryz.func102 [.v (.t 1) T3,.row (.t 0) true T3 3,.fnc (.t 2) 68 [.box true 3 1,.box true 22 1],.v (.c 1 0) T3,.v (.c 2 0) T22] 3 [[.row (.t 0) true T3 3,.obj (.t 1) true 3 1,.obj (.t 2) true 22 1,.v (.c 1 0) T3,.v (.c 2 0) T22]] (by kernel_rfl)
noncomputable def qkJ(n:Nat):CL Tryz.prog:=⟨[],[qlA n,qgC n],0,nof⟩
def qgr(n:Nat):Cw Tryz.prog:=mkW tab (qkJ n) [] Tryz.func67 [.row (.t 0) true T3 3,.fnc (.t 1) 68 [.box true 3 1,.box true 22 1],.v (.c 1 0) T3,.v (.c 2 0) T22] 2 [[.row (.t 0) true T3 3,.obj (.t 1) true 3 1,.obj (.t 2) true 22 1,.v (.c 1 0) T3,.v (.c 2 0) T22]] (by kernel_rfl)
noncomputable def qp2(n:Nat):CL Tryz.prog:=⟨[],[qgr n],0,nof⟩
def qtP(n:Nat):LK Tryz.prog false:=mkL tab (qp2 n) [] Tryz.f42 [true,true,true,true,false,true,false,false] 0 n [.v (.t 7) T3,.v (.t 19) T22,.v (.t 20) T3,.v (.t 21) T3,.obj (.t 2) false 3 1,.v (.c 0 0) T3,.obj (.t 3) false 22 1,.v (.c 1 0) T22,.row (.t 5) false T3 3,.row (.t 6) false T3 3] [(.exit 0,[.v (.t 7) T3,.obj (.t 2) false 3 1,.v (.c 0 0) T3,.obj (.t 3) false 22 1,.v (.c 1 0) T22,.row (.t 5) false T3 3,.row (.t 6) false T3 3])] (by kernel_rfl)
def qtQ(n:Nat):LK Tryz.prog false:=mkL tab (qp2 n) [] Tryz.f42 [true,true,true,true,true,true,false,true,false,false] 1 n [.v (.t 50) T3,.v (.t 51) T3,.row (.t 5) false T3 3,.row (.t 6) false T3 3,.sub (.t 49) 1] [(.exit 2,[.row (.t 5) false T3 3])] (by kernel_rfl)
def qu6(n:Nat):Ct Tryz.prog:=mkC tab (qp2 n) [qtP n,qtQ n] Tryz.func42 [.d T3,.d T22] [T22] (by kernel_rfl)
noncomputable def qo1(n:Nat):CL Tryz.prog:=⟨[qu6 n],[],0,nof⟩
def qo2(n:Nat):LK Tryz.prog false:=mkL tab (qo1 n) [] Tryz.f41 [true,false,false] 0 n [.v (.t 2) T3,.v (.t 19) T22,.v (.t 20) T3,.v (.t 21) T3,.obj (.t 3) true 71 1,.obj (.c 0 0) true 79 14,.v (.c 1 0) T79,.obj (.t 4) true 22 1,.row (.c 2 0) true T3 3] [(.exit 0,[.obj (.t 3) true 71 1,.obj (.c 0 0) true 79 14,.v (.c 1 0) T79,.obj (.t 4) true 22 1,.row (.c 2 0) true T3 3])] (by kernel_rfl)
def qpy(n:Nat):Cw Tryz.prog:=mkW tab (qo1 n) [qo2 n] Tryz.func41 [.v (.t 0) T3,.v (.t 1) T3,.v (.t 2) T3,.obj (.t 3) true 71 1,.obj (.c 0 0) true 79 14,.v (.c 1 0) T79,.obj (.t 4) true 22 1,.row (.c 2 0) true T3 3] 5 [[.obj (.t 0) true 71 1,.obj (.c 0 0) true 79 14,.v (.c 1 0) T79,.obj (.t 2) true 22 1,.row (.c 2 0) true T3 3]] (by kernel_rfl)
noncomputable def qkM(n:Nat):CL Tryz.prog:=⟨[],[qnY n,qlz n,qpy n],2,nof⟩
def qq6(n:Nat):LK Tryz.prog false:=mkL tab (qkM n) [] Tryz.f19 [true,true,true,true,true,true,false,true,false,false,true,true,false,false,true,true,false,false] 1 n [.v (.t 6) T3,.v (.t 7) T3,.v (.t 48) T35,.v (.t 49) T3,.v (.t 50) T3,.v (.t 55) T75,.v (.t 56) T3,.v (.t 57) T3,.obj (.t 4) false 71 1,.obj (.c 0 0) false 79 14,.v (.c 1 0) T79,.obj (.t 8) false 22 1,.row (.c 2 0) false T3 3,.obj (.t 11) false 77 5,.v (.c 4 0) T77,.fnc (.t 9) 41 [.al 0,.al 2]] [(.exit 2,[.v (.t 6) T3,.v (.t 7) T3,.v (.t 48) T35,.v (.t 49) T3,.v (.t 50) T3,.obj (.t 4) false 71 1,.obj (.c 0 0) false 79 14,.v (.c 1 0) T79,.obj (.t 8) false 22 1,.row (.c 2 0) false T3 3,.fnc (.t 9) 41 [.al 0,.al 2]])] (by kernel_rfl)
def qq7(n:Nat):LK Tryz.prog false:=mkL tab (qkM n) [qq6 n] Tryz.f19 [true,true,true,true,true,true,false,true,false,false] 0 n [.v (.t 6) T3,.v (.t 7) T3,.v (.t 48) T35,.v (.t 49) T3,.v (.t 50) T3,.obj (.t 4) false 71 1,.obj (.c 0 0) false 79 14,.v (.c 1 0) T79,.obj (.t 8) false 22 1,.row (.c 2 0) false T3 3,.fnc (.t 9) 41 [.al 0,.al 2]] [(.exit 0,[.obj (.t 4) false 71 1,.obj (.c 0 0) false 79 14,.v (.c 1 0) T79,.obj (.t 8) false 22 1,.row (.c 2 0) false T3 3,.fnc (.t 9) 41 [.al 0,.al 2]])] (by kernel_rfl)
def qq8(n:Nat):LK Tryz.prog false:=mkL tab (qkM n) [] Tryz.f19 [true,true,true,true,true,true,true,false,true,false,false] 2 n [.v (.t 95) T39,.v (.t 96) T3,.v (.t 97) T3,.obj (.t 4) false 71 1,.obj (.c 0 0) false 79 14,.v (.c 1 0) T79,.obj (.t 8) false 22 1,.row (.c 2 0) false T3 3,.fnc (.t 9) 41 [.al 0,.al 2]] [(.exit 4,[.obj (.t 8) false 22 1,.row (.c 0 0) false T3 3])] (by kernel_rfl)
def qn7(n:Nat):Ct Tryz.prog:=mkC tab (qkM n) [qq7 n,qq8 n] Tryz.func19 [.d T41] [T22,T24] (by kernel_rfl)
end
noncomputable section
noncomputable def qta(n:Nat):CL Tryz.prog:=⟨[],[],0,nof⟩
def qdK(n:Nat):Ct Tryz.prog:=mkC tab (qta n) [] Tryz.func28 [.d T3,.d T3,.d T3] [T4] (by kernel_rfl)
noncomputable def qmm(n:Nat):CL Tryz.prog:=⟨[qdK n],[],0,nof⟩
def qmn(n:Nat):LK Tryz.prog false:=mkL tab (qmm n) [] Tryz.f38 [true,true,false,true,false,false] 0 n [.v (.t 0) T22,.v (.t 3) T3,.v (.t 4) T3] [(.exit 0,[.v (.t 0) T22,.v (.t 3) T3]),(.ret,[.v (.t 2) T4])] (by kernel_rfl)
def qmR(n:Nat):Ct Tryz.prog:=mkC tab (qmm n) [qmn n] Tryz.func38 [.d T22] [T4] (by kernel_rfl)
noncomputable def qtb(n:Nat):CL Tryz.prog:=⟨[qdK n],[],0,nof⟩
def qot(n:Nat):Ct Tryz.prog:=mkC tab (qtb n) [] Tryz.func39 [.d T41,.d T3] [T4] (by kernel_rfl)
noncomputable def qiK(n:Nat):CL Tryz.prog:=⟨[qdK n],[],0,nof⟩
def qmo(n:Nat):LK Tryz.prog false:=mkL tab (qiK n) [] Tryz.f37 [true,false,true,false,false,true,false,false,true,true,true,false,false] 1 n [.v (.t 3) T3,.v (.t 5) T3,.obj (.t 1) false 41 13,.v (.c 0 0) T41,.obj (.t 4) false 95 3,.v (.c 1 0) T95] [(.exit 2,[.v (.t 3) T3,.obj (.t 1) false 41 13,.v (.c 0 0) T41]),(.ret,[.v (.t 2) T4])] (by kernel_rfl)
def qmp(n:Nat):LK Tryz.prog false:=mkL tab (qiK n) [qmo n] Tryz.f37 [true,false,true,false,false] 0 n [.v (.t 3) T3,.obj (.t 1) false 41 13,.v (.c 0 0) T41] [(.exit 0,[.obj (.t 1) false 41 13,.v (.c 0 0) T41]),(.ret,[.v (.t 2) T4])] (by kernel_rfl)
def qmS(n:Nat):Ct Tryz.prog:=mkC tab (qiK n) [qmp n] Tryz.func37 [.d T41] [T4] (by kernel_rfl)
noncomputable def qib(n:Nat):CL Tryz.prog:=⟨[qdK n,qoQ n,qmS n,qmR n,qot n],[],0,nof⟩
def qou(n:Nat):LK Tryz.prog false:=mkL tab (qib n) [] Tryz.f16 [true,true,true,false,true,false,false] 0 n [.v (.t 4) T3,.obj (.t 1) false 41 13,.v (.c 0 0) T41] [(.exit 0,[.obj (.t 1) false 41 13,.v (.c 0 0) T41]),(.ret,[.v (.t 2) T24])] (by kernel_rfl)
def qov(n:Nat):LK Tryz.prog false:=mkL tab (qib n) [] Tryz.f16 [true,true,true,true,false,true,false,false] 1 n [.v (.t 5) T3,.obj (.t 1) false 41 13,.v (.c 0 0) T41] [(.exit 2,[.obj (.t 1) false 41 13,.v (.c 0 0) T41]),(.ret,[.v (.t 2) T24])] (by kernel_rfl)
def qow(n:Nat):LK Tryz.prog false:=mkL tab (qib n) [] Tryz.f16 [true,true,true,true,true,false,true,false,false] 2 n [.v (.t 6) T3,.obj (.t 1) false 41 13,.v (.c 0 0) T41] [(.exit 4,[.obj (.t 1) false 41 13,.v (.c 0 0) T41]),(.ret,[.v (.t 2) T24])] (by kernel_rfl)
def qo3(n:Nat):Ct Tryz.prog:=mkC tab (qib n) [qou n,qov n,qow n] Tryz.func16 [.d T41] [T24] (by kernel_rfl)
noncomputable def qpz(n:Nat):CL Tryz.prog:=⟨[qqu n],[],0,nof⟩
def qpA(n:Nat):LK Tryz.prog false:=mkL tab (qpz n) [] Tryz.f29 [true,true,false,true,false,false] 0 n [.v (.t 3) T3,.obj (.t 1) false 41 13,.v (.c 0 0) T41] [(.exit 0,[]),(.ret,[.v (.t 2) T4])] (by kernel_rfl)
def qqy(n:Nat):Ct Tryz.prog:=mkC tab (qpz n) [qpA n] Tryz.func29 [.d T41] [T4] (by kernel_rfl)
noncomputable def qsi(n:Nat):CL Tryz.prog:=⟨[qnH n],[],0,nof⟩
def qkp(n:Nat):Ct Tryz.prog:=mkC tab (qsi n) [] Tryz.func20 [] [T41] (by kernel_rfl)
noncomputable def qv2(n:Nat):CL Tryz.prog:=⟨[qu5 n,qkp n,qo0 n],[],0,nof⟩
def qq9(n:Nat):Ct Tryz.prog:=mkC tab (qv2 n) [] Tryz.func18 [] [T4] (by kernel_rfl)
noncomputable def quI(n:Nat):CL Tryz.prog:=⟨[qo3 n,qqy n],[],0,nof⟩
def qpB(n:Nat):Ct Tryz.prog:=mkC tab (quI n) [] Tryz.func17 [.d T41] [T4] (by kernel_rfl)
end
end Go.Proofs.YtcjcacbhkoainaaGreatDoor
/- The contract of math/bits.TrailingZeros, by hand: it reads a table that is a package variable. -/
namespace Go.Proofs.YtcjcacbhkoainaaGreatDoor
open Go Go.Proofs Go.RowKit Go.Shelf
set_option maxHeartbeats 800000
attribute [local go_sem] Oper.semAt_some
def tz(s:Nat):Nat:=if s % 2=1 then 0 else if s % 4=2 then 1 else if s % 8=4 then 2 else if s % 16=8 then 3 else if s % 32=16 then 4 else if s % 64=32 then 5 else if s % 128=64 then 6 else 7
theorem qAL(s:Nat):tz s<8:=by unfold tz;repeat' split<;>try omega
def jj(k:Nat):Nat:=2 ^ k*285870213051353865 % 18446744073709551616/288230376151711744
theorem qKx(k:Nat)(hk:k<8):jj k<64:=by revert k;decide +kernel
theorem qJx(s:Nat):s<256→0<s→bits BinOp.and IntKind.u64 (s:Int) (IntKind.u64.wrap (-(s:Int)))=((2 ^ tz s:Nat):Int):=by
 revert s;decide +kernel
theorem qFg(k:Nat):k<8→IntKind.u64.wrap (((2 ^ k:Nat):Int)*285870213051353865)/288230376151711744=((jj k:Nat):Int):=by
 revert k;decide +kernel
theorem qG9(s:Nat)(hs:s<256)(h0:0<s):IntKind.u64.wrap (bits BinOp.and IntKind.u64 (s:Int) (IntKind.u64.wrap (-(s:Int)))*285870213051353865)/288230376151711744=((jj (tz s):Nat):Int):=by
 rw[qJx s hs h0];exact qFg _ (qAL s)
def qDY(w:World):Prop:=1<w.heap.size∧∀k,k<8→w.cell? ⟨1,jj k,none⟩=some (.int .u8 (k:Int))
theorem qFh(s k idx:Nat)(w:World)(hs0:((s:Int)==0)=false)
  (hE:IntKind.u64.wrap (bits BinOp.and IntKind.u64 (s:Int) (IntKind.u64.wrap (-(s:Int)))*285870213051353865)/288230376151711744=(idx:Int))
  (hj:idx<64) (hk:k<8) (hc:w.cell? ⟨1,idx,none⟩=some (.int .u8 (k:Int))) :
  Calls Tryz.prog 71 #[.int .u64 s] w fun e w'=>e = .returned (.int .i64 k)∧w=w':=by
 go_enter Tryz.func71,Tryz.ntmps71
 go_wp2_with fail
 go_ret
 exact ⟨rfl,rfl⟩
theorem qHa(s:Nat)(w:World)(hs:s<256)(h0:0<s)(ht:qDY w):Calls Tryz.prog 71 #[.int .u64 s] w fun e w'=>e = .returned (.int .i64 (tz s))∧w=w' :=
 qFh s (tz s) (jj (tz s)) w (by simp;omega) (qG9 s hs h0) (qKx (tz s) (qAL s)) (qAL s) (ht.2 (tz s) (qAL s))
theorem qIC(s:Nat)(w:World)(hs:s<256)(h0:0<s)(ht:qDY w):Calls Tryz.prog 50 #[.int .u64 s] w fun e w'=>e = .returned (.int .i64 (tz s))∧w=w':=by
 have hs0:(0:Int)≤s:=by omega
 go_enter Tryz.func50,Tryz.ntmps50
 go_wp2_with (go_at_call 71;refine (qHa _ _ hs h0 ht).mono ?_;rintro e w1 ⟨rfl,rfl⟩)
 go_ret
 exact ⟨rfl,rfl⟩
theorem qFi:∀k,k<8→(1,(jj k,Value.int .u8 (k:Int)))∈gTab
 | 0,_=>List.mem_of_getElem? (i:=0) rfl
 | 1,_=>List.mem_of_getElem? (i:=1) rfl
 | 2,_=>List.mem_of_getElem? (i:=2) rfl
 | 3,_=>List.mem_of_getElem? (i:=3) rfl
 | 4,_=>List.mem_of_getElem? (i:=4) rfl
 | 5,_=>List.mem_of_getElem? (i:=5) rfl
 | 6,_=>List.mem_of_getElem? (i:=6) rfl
 | 7,_=>List.mem_of_getElem? (i:=7) rfl
 | k+8,h=>absurd h (by omega)
theorem qHb{w:World}(h:Gl w):qDY w:=⟨h.lt (qFi 0 (by decide)),fun k hk=>h _ (qFi k hk)⟩
def tzB(x:Int):Bool:=decide (0<x)&&decide (x<256)
noncomputable def tz_M(n:Nat)(x:qhj [.d (.i .u64)]):Option (qU [.i .i64]):=cond (tzB x.1) (some ((tz (Int.toNat x.1):Int),())) none
noncomputable def tz_C(n:Nat):Ct Tryz.prog:=⟨50,[.d (.i .u64)],.ts [.i .i64],tz_M n,fun x y h=>by
 obtain ⟨z,u⟩:=x
 change Int at z
 unfold tz_M at h
 cases hc:tzB z with
 | false=>simp only[hc,cond_false] at h;cases h
 | true =>
  simp only[hc,cond_true] at h
  injection h with h
  subst h
  unfold tzB at hc
  simp only[Bool.and_eq_true,decide_eq_true_eq] at hc
  obtain ⟨s,hs⟩:=Int.eq_ofNat_of_zero_le (show 0≤z by omega)
  subst hs
  refine ⟨enters_of (c:=qA Tryz.f50) Tryz.func50 (by kernel_rfl) (by kernel_rfl),fun w S vs hG hn henc=>?_⟩
  have h0:=henc 0 (.val (.int .u64 s)) rfl
  obtain ⟨v,rfl⟩:∃v,vs = #[v]:=by
   obtain ⟨l⟩:=vs
   match l,hn with
   | [v],_=>exact ⟨v,rfl⟩
  have h1:v = .int .u64 s:=h0.val_eq
  subst h1
  refine (qIC s w (by omega) (by omega) (qHb hG)).mono fun e w' ⟨e1,e2⟩=>?_
  subst e2
  exact ⟨Ext.refl _,_,e1,.val _⟩⟩
noncomputable section
noncomputable def qjm(n:Nat):CL Tryz.prog:=⟨[],[],0,fun _=>false⟩
noncomputable def qmT(n:Nat):Nat→St→PT (DEx×St):=fun _ _=>.fail
theorem qsj(n:Nat):qbr (qjm n).c (qA Tryz.f45) 0=[]:=by kernel_rfl
theorem qsk:Tryz.f45.body=some (qA Tryz.f45):=by kernel_rfl
abbrev qjn:List It:=[.raw (.t 0)]
abbrev qiL:List (List It):=[[.row (.t 0) false T3 3]]
noncomputable def qhg(n:Nat)(x:qh qjn):Option (qbL qiL):=runW tab (qjm n) (qmT n) (qA Tryz.f45) qjn 1 8 [.tmp 2] qiL x
noncomputable def qsl(n:Nat):Cw Tryz.prog:=⟨45,1,qjn,1,qiL,qhg n,fun _ _ h=>qnF (B:=tab) (cs:=qjm n) (lo:=qmT n) (rs:=[.tmp 2]) Tryz.func45 (by kernel_rfl) qsk (by kernel_rfl) (by decide) (qlw (qsj n) all_nil) h⟩
noncomputable def qlB(n:Nat):CL Tryz.prog:=⟨[],[],0,fun _=>false⟩
noncomputable def qo4(n:Nat):Nat→St→PT (DEx×St):=fun _ _=>.fail
theorem qvd(n:Nat):qbr (qlB n).c (qA Tryz.f45) 0=[]:=by kernel_rfl
theorem qve:Tryz.f45.body=some (qA Tryz.f45):=by kernel_rfl
abbrev qlC:List It:=[.v (.t 0) T22]
abbrev qic:List (List It):=[[.row (.t 0) false T3 3]]
noncomputable def qpC(n:Nat)(x:qh qlC):Option (qbL qic):=runW tab (qlB n) (qo4 n) (qA Tryz.f45) qlC 1 8 [.tmp 2] qic x
noncomputable def qvf(n:Nat):Cw Tryz.prog:=⟨45,1,qlC,1,qic,qpC n,fun _ _ h=>qnF (B:=tab) (cs:=qlB n) (lo:=qo4 n) (rs:=[.tmp 2]) Tryz.func45 (by kernel_rfl) qve (by kernel_rfl) (by decide) (qlw (qvd n) all_nil) h⟩
end
theorem qvg(n:Nat)(c:Nat):qhg n (.slice none 0 c,())=some ([],()):=by kernel_rfl
theorem qvh(n:Nat)(a:Addr)(c:Nat):qhg n (.slice (some a) 0 c,())=some ([],()):=by kernel_rfl
noncomputable def qvi(n:Nat):Cw Tryz.prog:=qC1 45 T3 qic (qhg n) (qpC n) ([],()) (fun v y m0 h=>(qsl n).okk (x:=(v,())) (y:=y) h m0 (quF m0)) (fun l y m0 h=>(qvf n).okk (x:=(l,())) (y:=y) h m0 (quF m0)) (fun A c=>by cases A with | none=>exact qvg n c | some a=>exact qvh n a c)
noncomputable section
noncomputable def qns(n:Nat):CL Tryz.prog:=⟨[],[],0,nof⟩
def qsm(n:Nat):LK Tryz.prog false:=mkL tab (qns n) [] Tryz.f58 [true,false,true,false,false] 0 n [.v (.t 1) T3,.v (.t 11) T37,.v (.t 12) T3,.v (.t 13) T3,.obj (.t 0) true 79 14,.v (.c 0 0) T34,.v (.c 0 2) T35,.v (.c 0 3) T3,.row (.c 0 4) true T3 3,.v (.c 0 5) T36,.v (.c 0 6) T37,.v (.c 0 7) T38,.v (.c 0 8) T39,.v (.c 0 9) T3,.v (.c 0 10) T3,.v (.c 0 11) T3,.v (.c 0 12) T3,.v (.c 0 13) T35,.obj (.t 4) false 95 3,.v (.c 2 0) T95] [(.exit 0,[.v (.t 1) T3,.obj (.t 0) true 79 14,.v (.c 0 0) T34,.v (.c 0 2) T35,.v (.c 0 3) T3,.row (.c 0 4) true T3 3,.v (.c 0 5) T36,.v (.c 0 6) T37,.v (.c 0 7) T38,.v (.c 0 8) T39,.v (.c 0 9) T3,.v (.c 0 10) T3,.v (.c 0 11) T3,.v (.c 0 12) T3,.v (.c 0 13) T35,.obj (.t 4) false 95 3,.v (.c 2 0) T95]),(.ret,[.obj (.t 0) true 79 14,.v (.c 0 0) T34,.v (.c 0 2) T35,.v (.c 0 3) T3,.row (.c 0 4) true T3 3,.v (.c 0 5) T36,.v (.c 0 6) T37,.v (.c 0 7) T38,.v (.c 0 8) T39,.v (.c 0 9) T3,.v (.c 0 10) T3,.v (.c 0 11) T3,.v (.c 0 12) T3,.v (.c 0 13) T35,.obj (.t 4) false 95 3,.v (.c 2 0) T95])] (by kernel_rfl)
def qtc(n:Nat):Cw Tryz.prog:=mkW tab (qns n) [qsm n] Tryz.func58 [.v (.t 1) T3,.obj (.t 0) true 79 14,.v (.c 0 0) T34,.v (.c 0 2) T35,.v (.c 0 3) T3,.row (.c 0 4) true T3 3,.v (.c 0 5) T36,.v (.c 0 6) T37,.v (.c 0 7) T38,.v (.c 0 8) T39,.v (.c 0 9) T3,.v (.c 0 10) T3,.v (.c 0 11) T3,.v (.c 0 12) T3,.v (.c 0 13) T35] 2 [[.v (.t 0) T95,.obj (.t 1) true 79 14,.v (.c 0 0) T34,.v (.c 0 2) T35,.v (.c 0 3) T3,.row (.c 0 4) true T3 3,.v (.c 0 5) T36,.v (.c 0 6) T37,.v (.c 0 7) T38,.v (.c 0 8) T39,.v (.c 0 9) T3,.v (.c 0 10) T3,.v (.c 0 11) T3,.v (.c 0 12) T3,.v (.c 0 13) T35]] (by kernel_rfl)
noncomputable def qtd(n:Nat):CL Tryz.prog:=⟨[],[],0,nof⟩
def qox(n:Nat):Cw Tryz.prog:=mkW tab (qtd n) [] Tryz.func88 [.v (.t 1) T3,.v (.t 2) T3,.obj (.t 0) true 79 14,.v (.c 0 0) T34,.v (.c 0 2) T35,.v (.c 0 3) T3,.row (.c 0 4) true T3 3,.v (.c 0 5) T36,.v (.c 0 6) T37,.v (.c 0 7) T38,.v (.c 0 8) T39,.v (.c 0 9) T3,.v (.c 0 10) T3,.v (.c 0 11) T3,.v (.c 0 12) T3,.v (.c 0 13) T35] 3 [[.v (.t 0) T4,.obj (.t 1) true 79 14,.v (.c 0 0) T34,.v (.c 0 2) T35,.v (.c 0 3) T3,.row (.c 0 4) true T3 3,.v (.c 0 5) T36,.v (.c 0 6) T37,.v (.c 0 7) T38,.v (.c 0 8) T39,.v (.c 0 9) T3,.v (.c 0 10) T3,.v (.c 0 11) T3,.v (.c 0 12) T3,.v (.c 0 13) T35]] (by kernel_rfl)
noncomputable def qp3(n:Nat):CL Tryz.prog:=⟨[],[qox n],0,nof⟩
def qlg(n:Nat):Cw Tryz.prog:=mkW tab (qp3 n) [] Tryz.func90 [.v (.t 0) T43,.obj (.t 1) true 3 1,.v (.c 0 0) T3,.obj (.t 2) true 71 1,.obj (.c 1 0) true 79 14,.v (.c 2 0) T34,.v (.c 2 2) T35,.v (.c 2 3) T3,.row (.c 2 4) true T3 3,.v (.c 2 5) T36,.v (.c 2 6) T37,.v (.c 2 7) T38,.v (.c 2 8) T39,.v (.c 2 9) T3,.v (.c 2 10) T3,.v (.c 2 11) T3,.v (.c 2 12) T3,.v (.c 2 13) T35,.obj (.t 3) true 3 1,.v (.c 4 0) T3] 4 [[.v (.t 0) T4,.obj (.t 1) true 3 1,.v (.c 0 0) T3,.obj (.t 2) true 71 1,.obj (.c 1 0) true 79 14,.v (.c 2 0) T34,.v (.c 2 2) T35,.v (.c 2 3) T3,.row (.c 2 4) true T3 3,.v (.c 2 5) T36,.v (.c 2 6) T37,.v (.c 2 7) T38,.v (.c 2 8) T39,.v (.c 2 9) T3,.v (.c 2 10) T3,.v (.c 2 11) T3,.v (.c 2 12) T3,.v (.c 2 13) T35,.obj (.t 5) true 3 1,.v (.c 4 0) T3]] (by kernel_rfl)
noncomputable def qd8(n:Nat):CL Tryz.prog:=⟨[],[qlg n],0,nof⟩
def qhT(n:Nat):LK Tryz.prog false:=mkL tab (qd8 n) [] Tryz.f117 [true,false,true,false,false] 0 n [.v (.t 0) T38,.v (.t 7) T3,.v (.t 8) T3,.fnc (.t 1) 90 [.box true 3 1,.box true 71 1,.box true 3 1],.v (.c 0 0) T3,.obj (.c 1 0) true 79 14,.v (.c 3 0) T34,.v (.c 3 2) T35,.v (.c 3 3) T3,.row (.c 3 4) true T3 3,.v (.c 3 5) T36,.v (.c 3 6) T37,.v (.c 3 7) T38,.v (.c 3 8) T39,.v (.c 3 9) T3,.v (.c 3 10) T3,.v (.c 3 11) T3,.v (.c 3 12) T3,.v (.c 3 13) T35,.v (.c 2 0) T3] [(.exit 0,[.fnc (.t 1) 90 [.box true 3 1,.box true 71 1,.box true 3 1],.v (.c 0 0) T3,.obj (.c 1 0) true 79 14,.v (.c 3 0) T34,.v (.c 3 2) T35,.v (.c 3 3) T3,.row (.c 3 4) true T3 3,.v (.c 3 5) T36,.v (.c 3 6) T37,.v (.c 3 7) T38,.v (.c 3 8) T39,.v (.c 3 9) T3,.v (.c 3 10) T3,.v (.c 3 11) T3,.v (.c 3 12) T3,.v (.c 3 13) T35,.v (.c 2 0) T3]),(.ret,[.v (.t 4) T3,.fnc (.t 1) 90 [.box true 3 1,.box true 71 1,.box true 3 1],.v (.c 0 0) T3,.obj (.c 1 0) true 79 14,.v (.c 3 0) T34,.v (.c 3 2) T35,.v (.c 3 3) T3,.row (.c 3 4) true T3 3,.v (.c 3 5) T36,.v (.c 3 6) T37,.v (.c 3 7) T38,.v (.c 3 8) T39,.v (.c 3 9) T3,.v (.c 3 10) T3,.v (.c 3 11) T3,.v (.c 3 12) T3,.v (.c 3 13) T35,.v (.c 2 0) T3])] (by kernel_rfl)
def qhZ(n:Nat):Cw Tryz.prog:=mkW tab (qd8 n) [qhT n] Tryz.func117 [.v (.t 0) T38,.fnc (.t 1) 90 [.box true 3 1,.box true 71 1,.box true 3 1],.v (.c 0 0) T3,.obj (.c 1 0) true 79 14,.v (.c 3 0) T34,.v (.c 3 2) T35,.v (.c 3 3) T3,.row (.c 3 4) true T3 3,.v (.c 3 5) T36,.v (.c 3 6) T37,.v (.c 3 7) T38,.v (.c 3 8) T39,.v (.c 3 9) T3,.v (.c 3 10) T3,.v (.c 3 11) T3,.v (.c 3 12) T3,.v (.c 3 13) T35,.v (.c 2 0) T3] 2 [[.v (.t 0) T3,.obj (.t 1) true 3 1,.obj (.t 2) true 71 1,.obj (.t 3) true 3 1,.v (.c 0 0) T3,.obj (.c 1 0) true 79 14,.v (.c 3 0) T34,.v (.c 3 2) T35,.v (.c 3 3) T3,.row (.c 3 4) true T3 3,.v (.c 3 5) T36,.v (.c 3 6) T37,.v (.c 3 7) T38,.v (.c 3 8) T39,.v (.c 3 9) T3,.v (.c 3 10) T3,.v (.c 3 11) T3,.v (.c 3 12) T3,.v (.c 3 13) T35,.v (.c 2 0) T3]] (by kernel_rfl)
noncomputable def qhk(n:Nat):CL Tryz.prog:=⟨[],[qf6 n,qlg n,qhZ n],0,nof⟩
def qhw(n:Nat):Cw Tryz.prog:=mkW tab (qhk n) [] Tryz.func89 [.v (.t 0) T38,.fnc (.t 1) 90 [.box true 3 1,.box true 71 1,.box true 3 1],.v (.c 0 0) T3,.obj (.c 1 0) true 79 14,.v (.c 3 0) T34,.v (.c 3 2) T35,.v (.c 3 3) T3,.row (.c 3 4) true T3 3,.v (.c 3 5) T36,.v (.c 3 6) T37,.v (.c 3 7) T38,.v (.c 3 8) T39,.v (.c 3 9) T3,.v (.c 3 10) T3,.v (.c 3 11) T3,.v (.c 3 12) T3,.v (.c 3 13) T35,.v (.c 2 0) T3] 2 [[.v (.t 0) T4,.obj (.t 1) true 3 1,.obj (.t 2) true 71 1,.obj (.t 3) true 3 1,.v (.c 0 0) T3,.obj (.c 1 0) true 79 14,.v (.c 3 0) T34,.v (.c 3 2) T35,.v (.c 3 3) T3,.row (.c 3 4) true T3 3,.v (.c 3 5) T36,.v (.c 3 6) T37,.v (.c 3 7) T38,.v (.c 3 8) T39,.v (.c 3 9) T3,.v (.c 3 10) T3,.v (.c 3 11) T3,.v (.c 3 12) T3,.v (.c 3 13) T35,.v (.c 2 0) T3]] (by kernel_rfl)
noncomputable def qqW(n:Nat):CL Tryz.prog:=⟨[],[qox n,qhw n],0,nof⟩
def qrr(n:Nat):Cw Tryz.prog:=mkW tab (qqW n) [] Tryz.func59 [.v (.t 1) T3,.v (.t 2) T3,.obj (.t 0) true 79 14,.v (.c 0 0) T34,.v (.c 0 2) T35,.v (.c 0 3) T3,.row (.c 0 4) true T3 3,.v (.c 0 5) T36,.v (.c 0 6) T37,.v (.c 0 7) T38,.v (.c 0 8) T39,.v (.c 0 9) T3,.v (.c 0 10) T3,.v (.c 0 11) T3,.v (.c 0 12) T3,.v (.c 0 13) T35] 3 [[.v (.t 0) T4,.obj (.t 1) true 79 14,.v (.c 0 0) T34,.v (.c 0 2) T35,.v (.c 0 3) T3,.row (.c 0 4) true T3 3,.v (.c 0 5) T36,.v (.c 0 6) T37,.v (.c 0 7) T38,.v (.c 0 8) T39,.v (.c 0 9) T3,.v (.c 0 10) T3,.v (.c 0 11) T3,.v (.c 0 12) T3,.v (.c 0 13) T35]] (by kernel_rfl)
noncomputable def qte(n:Nat):CL Tryz.prog:=⟨[quH n],[qtc n,qrr n],0,nof⟩
def qtR(n:Nat):Cw Tryz.prog:=mkW tab (qte n) [] Tryz.func35 [.v (.t 1) T77,.v (.t 2) T84,.obj (.t 0) true 79 14,.v (.c 0 0) T34,.v (.c 0 2) T35,.v (.c 0 3) T3,.row (.c 0 4) true T3 3,.v (.c 0 5) T36,.v (.c 0 6) T37,.v (.c 0 7) T38,.v (.c 0 8) T39,.v (.c 0 9) T3,.v (.c 0 10) T3,.v (.c 0 11) T3,.v (.c 0 12) T3,.v (.c 0 13) T35] 3 [[.v (.t 0) T3,.v (.t 1) T3,.obj (.t 2) true 79 14,.v (.c 0 0) T34,.v (.c 0 2) T35,.v (.c 0 3) T3,.row (.c 0 4) true T3 3,.v (.c 0 5) T36,.v (.c 0 6) T37,.v (.c 0 7) T38,.v (.c 0 8) T39,.v (.c 0 9) T3,.v (.c 0 10) T3,.v (.c 0 11) T3,.v (.c 0 12) T3,.v (.c 0 13) T35]] (by kernel_rfl)
noncomputable def qmU(n:Nat):CL Tryz.prog:=⟨[],[qtR n],0,nof⟩
def qv3(n:Nat):LK Tryz.prog false:=mkL tab (qmU n) [] Tryz.f46 [true,true,true,false,true,false,false,true,true,false,false,true,true,false,false] 1 n [.v (.t 6) T3,.v (.t 24) T35,.v (.t 25) T3,.v (.t 26) T3,.v (.t 31) T75,.v (.t 32) T3,.v (.t 33) T3,.obj (.t 1) true 71 1,.obj (.c 0 0) true 79 14,.v (.c 1 0) T34,.v (.c 1 2) T35,.v (.c 1 3) T3,.row (.c 1 4) true T3 3,.v (.c 1 5) T36,.v (.c 1 6) T37,.v (.c 1 7) T38,.v (.c 1 8) T39,.v (.c 1 9) T3,.v (.c 1 10) T3,.v (.c 1 11) T3,.v (.c 1 12) T3,.v (.c 1 13) T35,.obj (.t 2) true 3 1,.v (.c 3 0) T3,.obj (.t 3) true 3 1,.v (.c 4 0) T3,.obj (.t 8) false 77 5,.v (.c 5 0) T77] [(.exit 2,[.v (.t 6) T3,.v (.t 24) T35,.v (.t 25) T3,.v (.t 26) T3,.obj (.t 1) true 71 1,.obj (.c 0 0) true 79 14,.v (.c 1 0) T34,.v (.c 1 2) T35,.v (.c 1 3) T3,.row (.c 1 4) true T3 3,.v (.c 1 5) T36,.v (.c 1 6) T37,.v (.c 1 7) T38,.v (.c 1 8) T39,.v (.c 1 9) T3,.v (.c 1 10) T3,.v (.c 1 11) T3,.v (.c 1 12) T3,.v (.c 1 13) T35,.obj (.t 2) true 3 1,.v (.c 3 0) T3,.obj (.t 3) true 3 1,.v (.c 4 0) T3])] (by kernel_rfl)
def qv4(n:Nat):LK Tryz.prog false:=mkL tab (qmU n) [qv3 n] Tryz.f46 [true,true,true,false,true,false,false] 0 n [.v (.t 6) T3,.v (.t 24) T35,.v (.t 25) T3,.v (.t 26) T3,.obj (.t 1) true 71 1,.obj (.c 0 0) true 79 14,.v (.c 1 0) T34,.v (.c 1 2) T35,.v (.c 1 3) T3,.row (.c 1 4) true T3 3,.v (.c 1 5) T36,.v (.c 1 6) T37,.v (.c 1 7) T38,.v (.c 1 8) T39,.v (.c 1 9) T3,.v (.c 1 10) T3,.v (.c 1 11) T3,.v (.c 1 12) T3,.v (.c 1 13) T35,.obj (.t 2) true 3 1,.v (.c 3 0) T3,.obj (.t 3) true 3 1,.v (.c 4 0) T3] [(.exit 0,[.v (.t 6) T3,.obj (.t 1) true 71 1,.obj (.c 0 0) true 79 14,.v (.c 1 0) T34,.v (.c 1 2) T35,.v (.c 1 3) T3,.row (.c 1 4) true T3 3,.v (.c 1 5) T36,.v (.c 1 6) T37,.v (.c 1 7) T38,.v (.c 1 8) T39,.v (.c 1 9) T3,.v (.c 1 10) T3,.v (.c 1 11) T3,.v (.c 1 12) T3,.v (.c 1 13) T35,.obj (.t 2) true 3 1,.v (.c 3 0) T3,.obj (.t 3) true 3 1,.v (.c 4 0) T3])] (by kernel_rfl)
def qwR(n:Nat):Cw Tryz.prog:=mkW tab (qmU n) [qv4 n] Tryz.func46 [.v (.t 0) T3,.obj (.t 1) true 71 1,.obj (.c 0 0) true 79 14,.v (.c 1 0) T34,.v (.c 1 2) T35,.v (.c 1 3) T3,.row (.c 1 4) true T3 3,.v (.c 1 5) T36,.v (.c 1 6) T37,.v (.c 1 7) T38,.v (.c 1 8) T39,.v (.c 1 9) T3,.v (.c 1 10) T3,.v (.c 1 11) T3,.v (.c 1 12) T3,.v (.c 1 13) T35,.obj (.t 2) true 3 1,.v (.c 3 0) T3,.obj (.t 3) true 3 1,.v (.c 4 0) T3] 4 [[.v (.t 0) T4,.obj (.t 1) true 71 1,.obj (.c 0 0) true 79 14,.v (.c 1 0) T34,.v (.c 1 2) T35,.v (.c 1 3) T3,.row (.c 1 4) true T3 3,.v (.c 1 5) T36,.v (.c 1 6) T37,.v (.c 1 7) T38,.v (.c 1 8) T39,.v (.c 1 9) T3,.v (.c 1 10) T3,.v (.c 1 11) T3,.v (.c 1 12) T3,.v (.c 1 13) T35,.obj (.t 4) true 3 1,.v (.c 3 0) T3,.obj (.t 5) true 3 1,.v (.c 4 0) T3]] (by kernel_rfl)
noncomputable def qtS(n:Nat):CL Tryz.prog:=⟨[qfl n],[qnY n,qvi n,qwR n],2,nof⟩
def qzk(n:Nat):LK Tryz.prog false:=mkL tab (qtS n) [] Tryz.f21 [true,true,true,true,true,true,true,true,false,false,false] 0 n [.v (.t 11) T3,.v (.t 12) T3,.obj (.t 4) false 3 1,.v (.c 0 0) T3,.obj (.t 5) false 3 1,.v (.c 1 0) T3,.obj (.t 8) false 71 1,.obj (.c 2 0) false 79 14,.v (.c 3 0) T34,.v (.c 3 2) T35,.v (.c 3 3) T3,.row (.c 3 4) false T3 3,.v (.c 3 5) T36,.v (.c 3 6) T37,.v (.c 3 7) T38,.v (.c 3 8) T39,.v (.c 3 9) T3,.v (.c 3 10) T3,.v (.c 3 11) T3,.v (.c 3 12) T3,.v (.c 3 13) T35,.fnc (.t 10) 46 [.al 2,.al 0,.al 1]] [(.exit 0,[.v (.t 12) T3])] (by kernel_rfl)
def qAy(n:Nat):Ct Tryz.prog:=mkC tab (qtS n) [qzk n] Tryz.func21 [.d T41,.d T3,.d T3] [T3,T24] (by kernel_rfl)
end
noncomputable section
noncomputable def qtT(n:Nat):CL Tryz.prog:=⟨[qfl n],[],0,nof⟩
def qtU(n:Nat):LK Tryz.prog false:=mkL tab (qtT n) [] Tryz.f24 [true,true,true,false,true,false,false] 0 n [.v (.t 0) T22,.v (.t 4) T3,.v (.t 10) T22,.v (.t 11) T3,.v (.t 12) T3] [(.exit 0,[.v (.t 0) T22,.v (.t 4) T3]),(.ret,[.v (.t 2) T59,.v (.t 3) T24])] (by kernel_rfl)
def qu7(n:Nat):Ct Tryz.prog:=mkC tab (qtT n) [qtU n] Tryz.func24 [.d T22] [T59,T24] (by kernel_rfl)
noncomputable def qo5(n:Nat):CL Tryz.prog:=⟨[],[],0,nof⟩
def qo6(n:Nat):LK Tryz.prog false:=mkL tab (qo5 n) [] Tryz.f26 [true,false,true,false,false] 0 n [.v (.t 2) T57,.v (.t 5) T59,.v (.t 6) T3,.v (.t 7) T3] [(.exit 0,[.v (.t 2) T57])] (by kernel_rfl)
def qpD(n:Nat):Ct Tryz.prog:=mkC tab (qo5 n) [qo6 n] Tryz.func26 [.d T59] [T57] (by kernel_rfl)
noncomputable def qpE(n:Nat):CL Tryz.prog:=⟨[tz_C n],[],0,nof⟩
def qpF(n:Nat):LK Tryz.prog false:=mkL tab (qpE n) [] Tryz.f49 [true,false,false,false] 0 n [.v (.t 0) T59,.v (.t 1) T57,.v (.t 4) T3] [(.exit 0,[.v (.t 4) T3])] (by kernel_rfl)
def qqz(n:Nat):Ct Tryz.prog:=mkC tab (qpE n) [qpF n] Tryz.func49 [.d T59,.d T57] [T3] (by kernel_rfl)
abbrev qx:List It:=[.v (.t 0) T57,.obj (.t 1) true 100 1,.mpi (.c 0 0) true T57 T62,.obj (.t 2) true 59 1,.v (.c 2 0) T59,.obj (.t 3) true 63 1,.fnc (.c 3 0) 48 [.al 0,.al 2,.al 3]]
abbrev qu:List (List It):=[[.v (.t 0) T62,.obj (.t 1) true 100 1,.mpi (.c 0 0) true T57 T62,.obj (.t 3) true 59 1,.v (.c 2 0) T59,.obj (.t 4) true 63 1,.fnc (.c 3 0) 48 [.al 0,.al 2,.al 3]]]
abbrev qf:Type:={g:qh qx→Option (qbL qu) // qsJ Tryz.prog 48 4 qx 1 qu g}
noncomputable def qO(n:Nat)(g:qf):CL Tryz.prog:=⟨[qqz n],[⟨48,4,qx,1,qu,g.1,g.2⟩],0,fun _=>false⟩
noncomputable def qe7(n:Nat)(g:qf):Nat→St→PT (DEx×St):=fun _ _=>.fail
abbrev qbd:List It:=[.v (.t 0) T57,.v (.t 8) T57,.v (.t 9) T57,.v (.t 11) T57,.obj (.t 1) true 100 1,.mpi (.c 0 0) true T57 T62,.obj (.t 2) true 59 1,.v (.c 2 0) T59,.obj (.t 3) true 63 1,.fnc (.c 3 0) 48 [.al 0,.al 2,.al 3],.row (.t 10) false T57 57]
abbrev qbI:List (DEx×List It):=[(.exit 0,[.v (.t 0) T57,.obj (.t 1) true 100 1,.mpi (.c 0 0) true T57 T62,.obj (.t 2) true 59 1,.v (.c 2 0) T59,.obj (.t 3) true 63 1,.fnc (.c 3 0) 48 [.al 0,.al 2,.al 3],.row (.t 10) false T57 57])]
noncomputable def qfd(n:Nat)(g:qf)(rec:qh qbd→Option (qbM qbI))(s:qh qbd):Option (qbM qbI):=(qgN tab (qO n g) (qe7 n g) (subC [true,true,true,true,true,false,true,false,false] (qA Tryz.f48)) 1 (mkS qbd 62 s)).run (Lp.leaf 62 qbd qbI rec)
noncomputable def qcX(n:Nat)(g:qf):Lp:=⟨62,qbd,qbI,qb n (qfd n g)⟩
theorem qjE(n:Nat)(g:qf):qbr (qO n g).c (subC [true,true,true,true,true,false,true,false,false] (qA Tryz.f48)) 1=[]:=by kernel_rfl
theorem qiM(n:Nat)(g:qf)(st:St)(r:DEx×St)(h:((qcX n g).go st).Is r):DA Tryz.prog false (.loop (subC [true,true,true,true,true,false,true,false,false] (qA Tryz.f48))) st r:=Lp.ok (L:=qcX n g) (B:=tab) (cs:=qO n g) (lo:=qe7 n g) (id:=0) rfl (qlw (qjE n g) all_nil) (fun _ _=>rfl) h
noncomputable def qfe(n:Nat)(g:qf):Nat→St→PT (DEx×St):=fun k st=>match k with
 | 0=>(qcX n g).go st
 | _=>.fail
theorem qjO(n:Nat)(g:qf):qbr (qO n g).c (qA Tryz.f48) 0=[(0,.loop (subC [true,true,true,true,true,false,true,false,false] (qA Tryz.f48)))]:=by kernel_rfl
theorem qjP:Tryz.f48.body=some (qA Tryz.f48):=by kernel_rfl
noncomputable def qcY(n:Nat)(g:qf)(x:qh qx):Option (qbL qu):=runW tab (qO n g) (qfe n g) (qA Tryz.f48) qx 4 62 [.tmp 5] qu x
theorem qjF(n:Nat)(g:qf):qsJ Tryz.prog 48 4 qx 1 qu (qcY n g):=fun _ _ h=>qnF (B:=tab) (cs:=qO n g) (lo:=qfe n g) (rs:=[.tmp 5]) Tryz.func48 (by kernel_rfl) qjP (by kernel_rfl) (by decide) (qlw (qjO n g) (all_cons (fun st r h=>qiM n g st r h) all_nil)) h
noncomputable def qn(n:Nat):Nat→qf
 | 0=>⟨fun _=>none,fun _ _ h=>by cases h⟩
 | k+1=>⟨qcY n (qn n k),qjF n (qn n k)⟩
noncomputable def qfp(n:Nat)(x:qh qx):Option (qbL qu):=(qn n n).1 x
noncomputable def qjQ(n:Nat):Cw Tryz.prog:=⟨48,4,qx,1,qu,qfp n,(qn n n).2⟩
noncomputable def qtf(n:Nat):CL Tryz.prog:=⟨[],[qjQ n],0,nof⟩
def qoy(n:Nat):Ct Tryz.prog:=mkC tab (qtf n) [] Tryz.func25 [.d T59,.d T57] [T62] (by kernel_rfl)
noncomputable def qzl(n:Nat):CL Tryz.prog:=⟨[qg1 n],[],0,nof⟩
def qnZ(n:Nat):Ct Tryz.prog:=mkC tab (qzl n) [] Tryz.func52 [.d T105,.d T105] [T3] (by kernel_rfl)
noncomputable def qcg(n:Nat):CL Tryz.prog:=⟨[qnZ n],[],0,nof⟩
def qeg(n:Nat):LK Tryz.prog false:=mkL tab (qcg n) [] Tryz.f104 [true,false,false,true,false,false,true,false,false] 1 n [.v (.t 1) T3,.v (.t 2) T3,.fn (.t 3) 52 [] [],.v (.t 8) T3,.v (.t 9) T3,.row (.t 0) true T105 105] [(.exit 2,[.v (.t 1) T3,.v (.t 2) T3,.fn (.t 3) 52 [] [],.v (.t 8) T3,.row (.t 0) true T105 105])] (by kernel_rfl)
def qeh(n:Nat):LK Tryz.prog false:=mkL tab (qcg n) [qeg n] Tryz.f104 [true,false,false] 0 n [.v (.t 1) T3,.v (.t 2) T3,.fn (.t 3) 52 [] [],.v (.t 8) T3,.row (.t 0) true T105 105] [(.exit 0,[.row (.t 0) true T105 105])] (by kernel_rfl)
def qep(n:Nat):Cw Tryz.prog:=mkW tab (qcg n) [qeh n] Tryz.func104 [.v (.t 1) T3,.v (.t 2) T3,.fn (.t 3) 52 [] [],.row (.t 0) true T105 105] 4 [[.row (.t 0) true T105 105]] (by kernel_rfl)
noncomputable def qbS(n:Nat):CL Tryz.prog:=⟨[qnZ n],[qep n],0,nof⟩
def qfq(n:Nat):LK Tryz.prog false:=mkL tab (qbS n) [] Tryz.f72 [true,true,false,false,false] 0 n [.v (.t 1) T3,.fn (.t 2) 52 [] [],.v (.t 6) T3,.v (.t 7) T3,.v (.t 8) T3,.row (.t 0) true T105 105] [(.exit 0,[.v (.t 1) T3,.fn (.t 2) 52 [] [],.v (.t 6) T3,.v (.t 7) T3,.row (.t 0) true T105 105])] (by kernel_rfl)
def qfr(n:Nat):LK Tryz.prog false:=mkL tab (qbS n) [] Tryz.f72 [true,true,true,true,false,false,true,false,true,false,false,false] 2 n [.v (.t 1) T3,.fn (.t 2) 52 [] [],.v (.t 6) T3,.v (.t 7) T3,.v (.t 8) T3,.row (.t 0) true T105 105] [(.exit 4,[.v (.t 1) T3,.fn (.t 2) 52 [] [],.v (.t 6) T3,.v (.t 7) T3,.row (.t 0) true T105 105])] (by kernel_rfl)
def qfs(n:Nat):LK Tryz.prog false:=mkL tab (qbS n) [qfr n] Tryz.f72 [true,true,true,true,false,false] 1 n [.v (.t 1) T3,.fn (.t 2) 52 [] [],.v (.t 6) T3,.row (.t 0) true T105 105] [(.exit 2,[.row (.t 0) true T105 105])] (by kernel_rfl)
def qfN(n:Nat):Cw Tryz.prog:=mkW tab (qbS n) [qfq n,qfs n] Tryz.func72 [.v (.t 1) T3,.fn (.t 2) 52 [] [],.row (.t 0) true T105 105] 3 [[.row (.t 0) true T105 105]] (by kernel_rfl)
noncomputable def qjG(n:Nat):CL Tryz.prog:=⟨[qnZ n],[qfN n],0,nof⟩
def qft(n:Nat):Cw Tryz.prog:=mkW tab (qjG n) [] Tryz.func51 [.fn (.t 1) 52 [] [],.row (.t 0) true T105 105] 2 [[.row (.t 0) true T105 105]] (by kernel_rfl)
noncomputable def qqA(n:Nat):CL Tryz.prog:=⟨[],[],0,nof⟩
def qip(n:Nat):Ct Tryz.prog:=mkC tab (qqA n) [] Tryz.func54 [.d T105] [T4] (by kernel_rfl)
noncomputable def qde(n:Nat):CL Tryz.prog:=⟨[qip n],[],0,nof⟩
def qdf(n:Nat):LK Tryz.prog false:=mkL tab (qde n) [] Tryz.f73 [true,false,true,false,false] 0 n [.fn (.t 1) 54 [] [],.v (.t 7) T3,.v (.t 8) T3,.row (.t 0) true T105 105] [(.exit 0,[.row (.t 0) true T105 105]),(.ret,[.v (.t 4) T3,.row (.t 0) true T105 105])] (by kernel_rfl)
def qdn(n:Nat):Cw Tryz.prog:=mkW tab (qde n) [qdf n] Tryz.func73 [.fn (.t 1) 54 [] [],.row (.t 0) true T105 105] 2 [[.v (.t 0) T3,.row (.t 1) true T105 105]] (by kernel_rfl)
noncomputable def qdL(n:Nat):CL Tryz.prog:=⟨[qip n],[qdn n],0,nof⟩
def qdM(n:Nat):LK Tryz.prog false:=mkL tab (qdL n) [] Tryz.f53 [true,true,true,false,true,false,false] 0 n [.fn (.t 1) 54 [] [],.v (.t 5) T3,.v (.t 6) T3,.row (.t 0) true T105 105] [(.exit 0,[.v (.t 5) T3,.row (.t 0) true T105 105])] (by kernel_rfl)
def qd1(n:Nat):Cw Tryz.prog:=mkW tab (qdL n) [qdM n] Tryz.func53 [.fn (.t 1) 54 [] [],.row (.t 0) true T105 105] 2 [[.row (.t 1) true T105 105,.sub (.t 0) 0]] (by kernel_rfl)
noncomputable def qiN(n:Nat):CL Tryz.prog:=⟨[tz_C n],[qft n,qd1 n],1,nof⟩
def qmq(n:Nat):LK Tryz.prog false:=mkL tab (qiN n) [] Tryz.f27 [true,true,false,false,false] 0 n [.v (.t 0) T59,.v (.t 1) T57,.row (.t 4) false T67 67,.row (.t 5) false T105 105] [(.exit 0,[.row (.t 4) false T67 67,.row (.t 5) false T105 105])] (by kernel_rfl)
def qmr(n:Nat):LK Tryz.prog false:=mkL tab (qiN n) [] Tryz.f27 [true,true,true,false,false,false] 1 n [.row (.t 4) false T67 67,.row (.t 5) false T105 105] [(.exit 2,[.row (.t 4) false T67 67])] (by kernel_rfl)
def qmV(n:Nat):Ct Tryz.prog:=mkC tab (qiN n) [qmq n,qmr n] Tryz.func27 [.d T59,.d T57] [T27] (by kernel_rfl)
noncomputable def qsQ(n:Nat):CL Tryz.prog:=⟨[qu7 n,qoy n,qpD n,qmV n],[],0,nof⟩
def qsR(n:Nat):LK Tryz.prog false:=mkL tab (qsQ n) [] Tryz.f10 [true,true,true,true,false,true,false,false] 0 n [.v (.t 4) T59,.v (.t 20) T62,.v (.t 21) T3,.v (.t 22) T3,.row (.t 6) false T67 67] [(.exit 0,[.row (.t 6) false T67 67])] (by kernel_rfl)
def qp4(n:Nat):Ct Tryz.prog:=mkC tab (qsQ n) [qsR n] Tryz.func10 [.d T22] [T27,T24] (by kernel_rfl)
noncomputable def qyE(n:Nat):CL Tryz.prog:=⟨[qp4 n],[],0,nof⟩
def qp5(n:Nat):Ct Tryz.prog:=mkC tab (qyE n) [] Tryz.func8 [.d T22] [T3,T24] (by kernel_rfl)
end
noncomputable section
end
noncomputable section
noncomputable def qlh(n:Nat):CL Tryz.prog:=⟨[qdK n],[],0,nof⟩
def qli(n:Nat):LK Tryz.prog false:=mkL tab (qlh n) [] Tryz.f12 [true,true,true,false,true,false,false] 0 n [.v (.t 0) T22,.v (.t 3) T3,.v (.t 4) T3] [(.exit 0,[.v (.t 3) T3]),(.ret,[.v (.t 2) T4])] (by kernel_rfl)
def qlX(n:Nat):Ct Tryz.prog:=mkC tab (qlh n) [qli n] Tryz.func12 [.d T22] [T4] (by kernel_rfl)
noncomputable def qjR(n:Nat):CL Tryz.prog:=⟨[qdK n],[],0,nof⟩
def qnt(n:Nat):LK Tryz.prog false:=mkL tab (qjR n) [] Tryz.f11 [true,true,false,true,false,false] 0 n [.v (.t 1) T27,.v (.t 6) T3,.row (.t 5) false T3 3] [(.exit 0,[.row (.t 5) false T3 3]),(.ret,[.v (.t 4) T4])] (by kernel_rfl)
def qnu(n:Nat):LK Tryz.prog false:=mkL tab (qjR n) [] Tryz.f11 [true,true,true,false,true,false,false] 1 n [.v (.t 8) T3,.row (.t 5) false T3 3] [(.exit 2,[]),(.ret,[.v (.t 4) T4])] (by kernel_rfl)
def qnO(n:Nat):Ct Tryz.prog:=mkC tab (qjR n) [qnt n,qnu n] Tryz.func11 [.d T22,.d T27] [T4] (by kernel_rfl)
noncomputable def qmW(n:Nat):CL Tryz.prog:=⟨[],[],0,nof⟩
def qrY(n:Nat):LK Tryz.prog false:=mkL tab (qmW n) [] Tryz.f22 [true,true,false,true,false,false] 0 n [.v (.t 0) T22,.v (.t 1) T22,.v (.t 5) T3] [(.exit 0,[]),(.ret,[.v (.t 4) T4])] (by kernel_rfl)
def qsn(n:Nat):Ct Tryz.prog:=mkC tab (qmW n) [qrY n] Tryz.func22 [.d T22,.d T22] [T4] (by kernel_rfl)
noncomputable def qtV(n:Nat):CL Tryz.prog:=⟨[qp5 n,qn7 n,qkp n,qAy n,qsn n],[],0,nof⟩
def qDZ(n:Nat):Ct Tryz.prog:=mkC tab (qtV n) [] Tryz.func7 [] [T4] (by kernel_rfl)
noncomputable def qrZ(n:Nat):CL Tryz.prog:=⟨[qp5 n,qp4 n,qnO n,qlX n,qpB n,qq9 n,qn7 n],[],0,nof⟩
def qfu(n:Nat):Ct Tryz.prog:=mkC tab (qrZ n) [] Tryz.func6 [.d T41] [T4] (by kernel_rfl)
end
end Go.Proofs.YtcjcacbhkoainaaGreatDoor
