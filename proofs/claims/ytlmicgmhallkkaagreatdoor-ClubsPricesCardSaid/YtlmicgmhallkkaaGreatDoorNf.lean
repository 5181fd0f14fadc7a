/- Texts DnN, DnO, DnQ, Dnz, DnV, DnW, DnX, DnY, DnL, DnZ in one. -/
import Derived.Test.YtlmicgmhallkkaaGreatDoorNe
import Derived.Test.YtlmicgmhallkkaaGreatDoorNd
import Derived.Test.YtlmicgmhallkkaaGreatDoorKa
import Derived.Test.YtlmicgmhallkkaaGreatDoorTy
/- Printed: what functions of the program compute. -/
set_option linter.constructorNameAsVariable false
set_option linter.unusedSimpArgs false
set_option linter.unusedVariables false
set_option linter.unusedSectionVars false
namespace Go.Proofs.YtlmicgmhallkkaaGreatDoor
open Go Go.Proofs Go.RowKit
set_option maxRecDepth 20000
noncomputable section
noncomputable def qzu(n:Nat):CL Tryz.prog:=⟨[],[],0,nof⟩
def qea(n:Nat):Ct Tryz.prog:=mkC tab (qzu n) [] Tryz.func47 [.d T3,.d T3,.d T3] [T4] (by kernel_rfl)
noncomputable def qyD(n:Nat):CL Tryz.prog:=⟨[qea n],[],0,nof⟩
def qhP(n:Nat):Ct Tryz.prog:=mkC tab (qyD n) [] Tryz.func73 [.d T3] [T4] (by kernel_rfl)
noncomputable def qCo(n:Nat):CL Tryz.prog:=⟨[qea n],[],0,nof⟩
def qma(n:Nat):Ct Tryz.prog:=mkC tab (qCo n) [] Tryz.func68 [.d T3] [T4] (by kernel_rfl)
noncomputable def qnK(n:Nat):CL Tryz.prog:=⟨[qhP n],[],0,nof⟩
def qdi(n:Nat):Cw Tryz.prog:=mkW tab (qnK n) [] Tryz.func104 [.v (.t 0) T3,.obj (.t 1) true 98 1,.fnc (.c 0 0) 73 []] 2 [[.v (.t 0) T4,.obj (.t 1) true 98 1,.fnc (.c 0 0) 73 []]] (by kernel_rfl)
noncomputable def qdo(n:Nat):CL Tryz.prog:=⟨[qhP n],[qdi n],0,nof⟩
def qdp(n:Nat):LK Tryz.prog false:=mkL tab (qdo n) [] Tryz.f142 [true,false,true,false,false] 0 n [.v (.t 0) T22,.v (.t 7) T3,.v (.t 8) T3,.fnc (.t 1) 104 [.box true 98 1],.fnc (.c 0 0) 73 []] [(.exit 0,[.fnc (.t 1) 104 [.box true 98 1],.fnc (.c 0 0) 73 []]),(.ret,[.v (.t 4) T3,.fnc (.t 1) 104 [.box true 98 1],.fnc (.c 0 0) 73 []])] (by kernel_rfl)
def qdG(n:Nat):Cw Tryz.prog:=mkW tab (qdo n) [qdp n] Tryz.func142 [.v (.t 0) T22,.fnc (.t 1) 104 [.box true 98 1],.fnc (.c 0 0) 73 []] 2 [[.v (.t 0) T3,.obj (.t 1) true 98 1,.fnc (.c 0 0) 73 []]] (by kernel_rfl)
noncomputable def qgA(n:Nat):CL Tryz.prog:=⟨[qhP n],[qdi n,qdG n],0,nof⟩
def qc5(n:Nat):Cw Tryz.prog:=mkW tab (qgA n) [] Tryz.func103 [.v (.t 0) T22,.fnc (.t 1) 104 [.box true 98 1],.fnc (.c 0 0) 73 []] 2 [[.v (.t 0) T4,.obj (.t 1) true 98 1,.fnc (.c 0 0) 73 []]] (by kernel_rfl)
noncomputable def qoi(n:Nat):CL Tryz.prog:=⟨[qhP n],[qc5 n],0,nof⟩
def qiO(n:Nat):Cw Tryz.prog:=mkW tab (qoi n) [] Tryz.func67 [.v (.t 0) T22,.fn (.t 1) 73 [] []] 2 [[.v (.t 0) T4]] (by kernel_rfl)
noncomputable def qpn(n:Nat):CL Tryz.prog:=⟨[qma n],[],0,nof⟩
def qgn(n:Nat):Cw Tryz.prog:=mkW tab (qpn n) [] Tryz.func104 [.v (.t 0) T3,.obj (.t 1) true 98 1,.fnc (.c 0 0) 68 []] 2 [[.v (.t 0) T4,.obj (.t 1) true 98 1,.fnc (.c 0 0) 68 []]] (by kernel_rfl)
noncomputable def qd1(n:Nat):CL Tryz.prog:=⟨[qma n],[qgn n],0,nof⟩
def qd2(n:Nat):LK Tryz.prog false:=mkL tab (qd1 n) [] Tryz.f142 [true,false,true,false,false] 0 n [.v (.t 0) T22,.v (.t 7) T3,.v (.t 8) T3,.fnc (.t 1) 104 [.box true 98 1],.fnc (.c 0 0) 68 []] [(.exit 0,[.fnc (.t 1) 104 [.box true 98 1],.fnc (.c 0 0) 68 []]),(.ret,[.v (.t 4) T3,.fnc (.t 1) 104 [.box true 98 1],.fnc (.c 0 0) 68 []])] (by kernel_rfl)
def qec(n:Nat):Cw Tryz.prog:=mkW tab (qd1 n) [qd2 n] Tryz.func142 [.v (.t 0) T22,.fnc (.t 1) 104 [.box true 98 1],.fnc (.c 0 0) 68 []] 2 [[.v (.t 0) T3,.obj (.t 1) true 98 1,.fnc (.c 0 0) 68 []]] (by kernel_rfl)
noncomputable def qhf(n:Nat):CL Tryz.prog:=⟨[qma n],[qdi n,qgn n,qec n],0,nof⟩
def qdN(n:Nat):Cw Tryz.prog:=mkW tab (qhf n) [] Tryz.func103 [.v (.t 0) T22,.fnc (.t 1) 104 [.box true 98 1],.fnc (.c 0 0) 68 []] 2 [[.v (.t 0) T4,.obj (.t 1) true 98 1,.fnc (.c 0 0) 68 []]] (by kernel_rfl)
noncomputable def qqj(n:Nat):CL Tryz.prog:=⟨[qma n],[qdN n],0,nof⟩
def qkQ(n:Nat):Cw Tryz.prog:=mkW tab (qqj n) [] Tryz.func67 [.v (.t 0) T22,.fn (.t 1) 68 [] []] 2 [[.v (.t 0) T4]] (by kernel_rfl)
noncomputable def qtN(n:Nat):CL Tryz.prog:=⟨[],[qiO n],0,nof⟩
def qtO(n:Nat):LK Tryz.prog false:=mkL tab (qtN n) [] Tryz.f55 [true,true,false,true,false,false] 0 n [.v (.t 0) T22,.v (.t 3) T3,.v (.t 6) T22,.v (.t 7) T3,.v (.t 8) T3] [(.exit 0,[.v (.t 0) T22,.v (.t 3) T3])] (by kernel_rfl)
def qqU(n:Nat):Ct Tryz.prog:=mkC tab (qtN n) [qtO n] Tryz.func55 [.d T22] [T4] (by kernel_rfl)
noncomputable def qxL(n:Nat):CL Tryz.prog:=⟨[qea n],[],0,nof⟩
def qcE(n:Nat):Cw Tryz.prog:=mkW tab (qxL n) [] Tryz.func62 [.v (.t 0) T3,.obj (.t 1) true 41 13,.v (.c 0 0) T41] 2 [[.v (.t 0) T4,.obj (.t 1) true 41 13,.v (.c 0 0) T41]] (by kernel_rfl)
noncomputable def qxM(n:Nat):CL Tryz.prog:=⟨[qqU n],[],0,nof⟩
def qiP(n:Nat):Cw Tryz.prog:=mkW tab (qxM n) [] Tryz.func63 [.v (.t 0) T22,.obj (.t 1) true 41 13,.v (.c 0 0) T41] 2 [[.v (.t 0) T4,.obj (.t 1) true 41 13,.v (.c 0 0) T41]] (by kernel_rfl)
noncomputable def qxN(n:Nat):CL Tryz.prog:=⟨[qea n],[],0,nof⟩
def qiQ(n:Nat):Cw Tryz.prog:=mkW tab (qxN n) [] Tryz.func64 [.v (.t 0) T112,.obj (.t 1) true 110 1,.mpi (.c 0 0) true T3 T3,.obj (.t 2) true 41 13,.v (.c 2 0) T41] 3 [[.v (.t 0) T4,.obj (.t 1) true 110 1,.mpi (.c 0 0) true T3 T3,.obj (.t 3) true 41 13,.v (.c 2 0) T41]] (by kernel_rfl)
noncomputable def qpo(n:Nat):CL Tryz.prog:=⟨[],[qcE n],0,nof⟩
def qcQ(n:Nat):Cw Tryz.prog:=mkW tab (qpo n) [] Tryz.func65 [.v (.t 0) T64,.obj (.t 1) true 98 1,.fnc (.c 0 0) 62 [.box true 41 13],.v (.c 1 0) T41] 2 [[.v (.t 0) T4,.obj (.t 1) true 98 1,.fnc (.c 0 0) 62 [.box true 41 13],.v (.c 1 0) T41]] (by kernel_rfl)
noncomputable def qpp(n:Nat):CL Tryz.prog:=⟨[qea n],[qcE n],0,nof⟩
def qcR(n:Nat):Cw Tryz.prog:=mkW tab (qpp n) [] Tryz.func66 [.v (.t 0) T108,.obj (.t 1) true 98 1,.obj (.t 2) true 41 13,.v (.c 1 0) T41,.fnc (.c 0 0) 62 [.al 1]] 3 [[.v (.t 0) T4,.obj (.t 1) true 98 1,.obj (.t 2) true 41 13,.v (.c 1 0) T41,.fnc (.c 0 0) 62 [.al 1]]] (by kernel_rfl)
noncomputable def qnL(n:Nat):CL Tryz.prog:=⟨[],[qiP n],0,nof⟩
def qe4(n:Nat):Cw Tryz.prog:=mkW tab (qnL n) [] Tryz.func106 [.v (.t 0) T22,.obj (.t 1) true 31 1,.fnc (.c 0 0) 63 [.box true 41 13],.v (.c 1 0) T41] 2 [[.v (.t 0) T4,.obj (.t 1) true 31 1,.fnc (.c 0 0) 63 [.box true 41 13],.v (.c 1 0) T41]] (by kernel_rfl)
noncomputable def qdq(n:Nat):CL Tryz.prog:=⟨[],[qiP n,qe4 n],0,nof⟩
def qdr(n:Nat):LK Tryz.prog false:=mkL tab (qdq n) [] Tryz.f143 [true,false,true,false,false] 0 n [.v (.t 0) T36,.v (.t 7) T3,.v (.t 8) T3,.fnc (.t 1) 106 [.box true 31 1],.fnc (.c 0 0) 63 [.box true 41 13],.v (.c 1 0) T41] [(.exit 0,[.fnc (.t 1) 106 [.box true 31 1],.fnc (.c 0 0) 63 [.box true 41 13],.v (.c 1 0) T41]),(.ret,[.v (.t 4) T3,.fnc (.t 1) 106 [.box true 31 1],.fnc (.c 0 0) 63 [.box true 41 13],.v (.c 1 0) T41])] (by kernel_rfl)
def qdH(n:Nat):Cw Tryz.prog:=mkW tab (qdq n) [qdr n] Tryz.func143 [.v (.t 0) T36,.fnc (.t 1) 106 [.box true 31 1],.fnc (.c 0 0) 63 [.box true 41 13],.v (.c 1 0) T41] 2 [[.v (.t 0) T3,.obj (.t 1) true 31 1,.fnc (.c 0 0) 63 [.box true 41 13],.v (.c 1 0) T41]] (by kernel_rfl)
noncomputable def qgB(n:Nat):CL Tryz.prog:=⟨[],[qiP n,qe4 n,qdH n],0,nof⟩
def qc6(n:Nat):Cw Tryz.prog:=mkW tab (qgB n) [] Tryz.func105 [.v (.t 0) T36,.fnc (.t 1) 106 [.box true 31 1],.fnc (.c 0 0) 63 [.box true 41 13],.v (.c 1 0) T41] 2 [[.v (.t 0) T4,.obj (.t 1) true 31 1,.fnc (.c 0 0) 63 [.box true 41 13],.v (.c 1 0) T41]] (by kernel_rfl)
noncomputable def qoj(n:Nat):CL Tryz.prog:=⟨[],[qiP n,qc6 n],0,nof⟩
def qiR(n:Nat):Cw Tryz.prog:=mkW tab (qoj n) [] Tryz.func69 [.v (.t 0) T36,.fnc (.t 1) 63 [.box true 41 13],.v (.c 0 0) T41] 2 [[.v (.t 0) T4,.obj (.t 1) true 41 13,.v (.c 0 0) T41]] (by kernel_rfl)
noncomputable def qls(n:Nat):CL Tryz.prog:=⟨[],[qiQ n],0,nof⟩
def qd3(n:Nat):Cw Tryz.prog:=mkW tab (qls n) [] Tryz.func108 [.v (.t 0) T112,.obj (.t 1) true 113 1,.fnc (.c 0 0) 64 [.box true 110 1,.box true 41 13],.mpi (.c 1 0) true T3 T3,.v (.c 2 0) T41] 2 [[.v (.t 0) T4,.obj (.t 1) true 113 1,.fnc (.c 0 0) 64 [.box true 110 1,.box true 41 13],.mpi (.c 1 0) true T3 T3,.v (.c 2 0) T41]] (by kernel_rfl)
noncomputable def qcq(n:Nat):CL Tryz.prog:=⟨[],[qiQ n,qd3 n],0,nof⟩
def qcr(n:Nat):LK Tryz.prog false:=mkL tab (qcq n) [] Tryz.f144 [true,false,true,false,false] 0 n [.v (.t 0) T37,.v (.t 7) T3,.v (.t 8) T3,.fnc (.t 1) 108 [.box true 113 1],.fnc (.c 0 0) 64 [.box true 110 1,.box true 41 13],.mpi (.c 1 0) true T3 T3,.v (.c 2 0) T41] [(.exit 0,[.fnc (.t 1) 108 [.box true 113 1],.fnc (.c 0 0) 64 [.box true 110 1,.box true 41 13],.mpi (.c 1 0) true T3 T3,.v (.c 2 0) T41]),(.ret,[.v (.t 4) T3,.fnc (.t 1) 108 [.box true 113 1],.fnc (.c 0 0) 64 [.box true 110 1,.box true 41 13],.mpi (.c 1 0) true T3 T3,.v (.c 2 0) T41])] (by kernel_rfl)
def qcA(n:Nat):Cw Tryz.prog:=mkW tab (qcq n) [qcr n] Tryz.func144 [.v (.t 0) T37,.fnc (.t 1) 108 [.box true 113 1],.fnc (.c 0 0) 64 [.box true 110 1,.box true 41 13],.mpi (.c 1 0) true T3 T3,.v (.c 2 0) T41] 2 [[.v (.t 0) T3,.obj (.t 1) true 113 1,.fnc (.c 0 0) 64 [.box true 110 1,.box true 41 13],.mpi (.c 1 0) true T3 T3,.v (.c 2 0) T41]] (by kernel_rfl)
noncomputable def qe0(n:Nat):CL Tryz.prog:=⟨[],[qiQ n,qd3 n,qcA n],0,nof⟩
def qch(n:Nat):Cw Tryz.prog:=mkW tab (qe0 n) [] Tryz.func107 [.v (.t 0) T37,.fnc (.t 1) 108 [.box true 113 1],.fnc (.c 0 0) 64 [.box true 110 1,.box true 41 13],.mpi (.c 1 0) true T3 T3,.v (.c 2 0) T41] 2 [[.v (.t 0) T4,.obj (.t 1) true 113 1,.fnc (.c 0 0) 64 [.box true 110 1,.box true 41 13],.mpi (.c 1 0) true T3 T3,.v (.c 2 0) T41]] (by kernel_rfl)
noncomputable def qmd(n:Nat):CL Tryz.prog:=⟨[],[qiQ n,qch n],0,nof⟩
def qhe(n:Nat):Cw Tryz.prog:=mkW tab (qmd n) [] Tryz.func70 [.v (.t 0) T37,.fnc (.t 1) 64 [.box true 110 1,.box true 41 13],.mpi (.c 0 0) true T3 T3,.v (.c 1 0) T41] 2 [[.v (.t 0) T4,.obj (.t 1) true 110 1,.obj (.t 2) true 41 13,.mpi (.c 0 0) true T3 T3,.v (.c 1 0) T41]] (by kernel_rfl)
noncomputable def qhy(n:Nat):CL Tryz.prog:=⟨[],[qcE n,qcQ n],0,nof⟩
def qb1(n:Nat):Cw Tryz.prog:=mkW tab (qhy n) [] Tryz.func110 [.v (.t 0) T64,.obj (.t 1) true 114 1,.fnc (.c 0 0) 65 [.box true 98 1],.fnc (.c 1 0) 62 [.box true 41 13],.v (.c 2 0) T41] 2 [[.v (.t 0) T4,.obj (.t 1) true 114 1,.fnc (.c 0 0) 65 [.box true 98 1],.fnc (.c 1 0) 62 [.box true 41 13],.v (.c 2 0) T41]] (by kernel_rfl)
noncomputable def qbs(n:Nat):CL Tryz.prog:=⟨[],[qcE n,qcQ n,qb1 n],0,nof⟩
def qbt(n:Nat):LK Tryz.prog false:=mkL tab (qbs n) [] Tryz.f145 [true,false,true,false,false] 0 n [.v (.t 0) T38,.v (.t 7) T3,.v (.t 8) T3,.fnc (.t 1) 110 [.box true 114 1],.fnc (.c 0 0) 65 [.box true 98 1],.fnc (.c 1 0) 62 [.box true 41 13],.v (.c 2 0) T41] [(.exit 0,[.fnc (.t 1) 110 [.box true 114 1],.fnc (.c 0 0) 65 [.box true 98 1],.fnc (.c 1 0) 62 [.box true 41 13],.v (.c 2 0) T41]),(.ret,[.v (.t 4) T3,.fnc (.t 1) 110 [.box true 114 1],.fnc (.c 0 0) 65 [.box true 98 1],.fnc (.c 1 0) 62 [.box true 41 13],.v (.c 2 0) T41])] (by kernel_rfl)
def qP(n:Nat):Cw Tryz.prog:=mkW tab (qbs n) [qbt n] Tryz.func145 [.v (.t 0) T38,.fnc (.t 1) 110 [.box true 114 1],.fnc (.c 0 0) 65 [.box true 98 1],.fnc (.c 1 0) 62 [.box true 41 13],.v (.c 2 0) T41] 2 [[.v (.t 0) T3,.obj (.t 1) true 114 1,.fnc (.c 0 0) 65 [.box true 98 1],.fnc (.c 1 0) 62 [.box true 41 13],.v (.c 2 0) T41]] (by kernel_rfl)
noncomputable def qdy(n:Nat):CL Tryz.prog:=⟨[],[qcE n,qcQ n,qb1 n,qP n],0,nof⟩
def qN(n:Nat):Cw Tryz.prog:=mkW tab (qdy n) [] Tryz.func109 [.v (.t 0) T38,.fnc (.t 1) 110 [.box true 114 1],.fnc (.c 0 0) 65 [.box true 98 1],.fnc (.c 1 0) 62 [.box true 41 13],.v (.c 2 0) T41] 2 [[.v (.t 0) T4,.obj (.t 1) true 114 1,.fnc (.c 0 0) 65 [.box true 98 1],.fnc (.c 1 0) 62 [.box true 41 13],.v (.c 2 0) T41]] (by kernel_rfl)
noncomputable def qhZ(n:Nat):CL Tryz.prog:=⟨[],[qcE n,qcQ n,qN n],0,nof⟩
def qed(n:Nat):Cw Tryz.prog:=mkW tab (qhZ n) [] Tryz.func71 [.v (.t 0) T38,.fnc (.t 1) 65 [.box true 98 1],.fnc (.c 0 0) 62 [.box true 41 13],.v (.c 1 0) T41] 2 [[.v (.t 0) T4,.obj (.t 1) true 98 1,.fnc (.c 0 0) 62 [.box true 41 13],.v (.c 1 0) T41]] (by kernel_rfl)
noncomputable def qhD(n:Nat):CL Tryz.prog:=⟨[],[qcE n,qcR n],0,nof⟩
def qcd(n:Nat):Cw Tryz.prog:=mkW tab (qhD n) [] Tryz.func112 [.v (.t 0) T108,.obj (.t 1) true 115 1,.fnc (.c 0 0) 66 [.box true 98 1,.box true 41 13],.fnc (.c 1 0) 62 [.al 2],.v (.c 2 0) T41] 2 [[.v (.t 0) T4,.obj (.t 1) true 115 1,.fnc (.c 0 0) 66 [.box true 98 1,.box true 41 13],.fnc (.c 1 0) 62 [.al 2],.v (.c 2 0) T41]] (by kernel_rfl)
noncomputable def qbF(n:Nat):CL Tryz.prog:=⟨[],[qcE n,qcR n,qcd n],0,nof⟩
def qbG(n:Nat):LK Tryz.prog false:=mkL tab (qbF n) [] Tryz.f146 [true,false,true,false,false] 0 n [.v (.t 0) T39,.v (.t 7) T3,.v (.t 8) T3,.fnc (.t 1) 112 [.box true 115 1],.fnc (.c 0 0) 66 [.box true 98 1,.box true 41 13],.fnc (.c 1 0) 62 [.al 2],.v (.c 2 0) T41] [(.exit 0,[.fnc (.t 1) 112 [.box true 115 1],.fnc (.c 0 0) 66 [.box true 98 1,.box true 41 13],.fnc (.c 1 0) 62 [.al 2],.v (.c 2 0) T41]),(.ret,[.v (.t 4) T3,.fnc (.t 1) 112 [.box true 115 1],.fnc (.c 0 0) 66 [.box true 98 1,.box true 41 13],.fnc (.c 1 0) 62 [.al 2],.v (.c 2 0) T41])] (by kernel_rfl)
def qbI(n:Nat):Cw Tryz.prog:=mkW tab (qbF n) [qbG n] Tryz.func146 [.v (.t 0) T39,.fnc (.t 1) 112 [.box true 115 1],.fnc (.c 0 0) 66 [.box true 98 1,.box true 41 13],.fnc (.c 1 0) 62 [.al 2],.v (.c 2 0) T41] 2 [[.v (.t 0) T3,.obj (.t 1) true 115 1,.fnc (.c 0 0) 66 [.box true 98 1,.box true 41 13],.fnc (.c 1 0) 62 [.al 2],.v (.c 2 0) T41]] (by kernel_rfl)
noncomputable def qdO(n:Nat):CL Tryz.prog:=⟨[],[qcE n,qcR n,qcd n,qbI n],0,nof⟩
def qbu(n:Nat):Cw Tryz.prog:=mkW tab (qdO n) [] Tryz.func111 [.v (.t 0) T39,.fnc (.t 1) 112 [.box true 115 1],.fnc (.c 0 0) 66 [.box true 98 1,.box true 41 13],.fnc (.c 1 0) 62 [.al 2],.v (.c 2 0) T41] 2 [[.v (.t 0) T4,.obj (.t 1) true 115 1,.fnc (.c 0 0) 66 [.box true 98 1,.box true 41 13],.fnc (.c 1 0) 62 [.al 2],.v (.c 2 0) T41]] (by kernel_rfl)
noncomputable def qh8(n:Nat):CL Tryz.prog:=⟨[],[qcE n,qcR n,qbu n],0,nof⟩
def qei(n:Nat):Cw Tryz.prog:=mkW tab (qh8 n) [] Tryz.func72 [.v (.t 0) T39,.fnc (.t 1) 66 [.box true 98 1,.box true 41 13],.fnc (.c 0 0) 62 [.al 1],.v (.c 1 0) T41] 2 [[.v (.t 0) T4,.obj (.t 1) true 98 1,.obj (.t 2) true 41 13,.fnc (.c 0 0) 62 [.al 1],.v (.c 1 0) T41]] (by kernel_rfl)
noncomputable def qz5(n:Nat):CL Tryz.prog:=⟨[qea n,qsM n,qma n,qhP n],[qkQ n,qiR n,qhe n,qed n,qei n],0,nof⟩
def qrO(n:Nat):Ct Tryz.prog:=mkC tab (qz5 n) [] Tryz.func33 [.d T41] [T24] (by kernel_rfl)
noncomputable def qyE(n:Nat):CL Tryz.prog:=⟨[],[],0,nof⟩
def qtP(n:Nat):Cw Tryz.prog:=mkW tab (qyE n) [] Tryz.func89 [.v (.t 0) T91,.obj (.t 1) true 3 1,.v (.c 0 0) T3] 2 [[.v (.t 0) T4,.obj (.t 1) true 3 1,.v (.c 0 0) T3]] (by kernel_rfl)
noncomputable def qfp(n:Nat):CL Tryz.prog:=⟨[],[qtP n],0,nof⟩
def qfq(n:Nat):LK Tryz.prog false:=mkL tab (qfp n) [] Tryz.f58 [true,false,true,false,false] 0 n [.v (.t 0) T35,.v (.t 7) T3,.v (.t 8) T3,.fnc (.t 1) 89 [.box true 3 1],.v (.c 0 0) T3] [(.exit 0,[.fnc (.t 1) 89 [.box true 3 1],.v (.c 0 0) T3]),(.ret,[.v (.t 4) T3,.fnc (.t 1) 89 [.box true 3 1],.v (.c 0 0) T3])] (by kernel_rfl)
def qda(n:Nat):Cw Tryz.prog:=mkW tab (qfp n) [qfq n] Tryz.func58 [.v (.t 0) T35,.fnc (.t 1) 89 [.box true 3 1],.v (.c 0 0) T3] 2 [[.v (.t 0) T3,.obj (.t 1) true 3 1,.v (.c 0 0) T3]] (by kernel_rfl)
noncomputable def quF(n:Nat):CL Tryz.prog:=⟨[qrO n,qtM n],[qX n,qR n,qbf n,qda n],0,nof⟩
def quG(n:Nat):LK Tryz.prog false:=mkL tab (quF n) [] Tryz.f46 [true,true,true,true,false,true,false,false] 0 n [.v (.t 27) T22,.v (.t 28) T3,.v (.t 29) T3,.obj (.t 1) false 41 13,.v (.c 0 0) T41,.obj (.t 5) false 88 14,.v (.c 1 0) T41,.row (.c 1 13) false T91 91] [(.exit 0,[.obj (.t 5) false 88 14,.v (.c 0 0) T41,.row (.c 0 13) false T91 91])] (by kernel_rfl)
def qox(n:Nat):Cw Tryz.prog:=mkW tab (quF n) [quG n] Tryz.func46 [.v (.t 0) T41] 1 [[.v (.t 1) T24,.obj (.t 0) false 88 14,.v (.c 0 0) T41,.row (.c 0 13) false T91 91],[.nilp (.t 0),.v (.t 1) T24]] (by kernel_rfl)
noncomputable def qok(n:Nat):CL Tryz.prog:=⟨[],[],0,nof⟩
def qol(n:Nat):LK Tryz.prog false:=mkL tab (qok n) [] Tryz.f90 [true,false,true,false,false] 0 n [.v (.t 1) T3,.v (.t 11) T37,.v (.t 12) T3,.v (.t 13) T3,.obj (.t 0) true 88 14,.v (.c 0 0) T88,.obj (.t 4) false 112 3,.v (.c 1 0) T112] [(.exit 0,[.v (.t 1) T3,.obj (.t 0) true 88 14,.v (.c 0 0) T88,.obj (.t 4) false 112 3,.v (.c 1 0) T112]),(.ret,[.obj (.t 0) true 88 14,.v (.c 0 0) T88,.obj (.t 4) false 112 3,.v (.c 1 0) T112])] (by kernel_rfl)
def qo2(n:Nat):Cw Tryz.prog:=mkW tab (qok n) [qol n] Tryz.func90 [.v (.t 1) T3,.obj (.t 0) true 88 14,.v (.c 0 0) T88] 2 [[.v (.t 0) T112,.obj (.t 1) true 88 14,.v (.c 0 0) T88]] (by kernel_rfl)
noncomputable def quH(n:Nat):CL Tryz.prog:=⟨[],[],0,nof⟩
def qlu(n:Nat):Cw Tryz.prog:=mkW tab (quH n) [] Tryz.func128 [.v (.t 1) T3,.v (.t 2) T3,.obj (.t 0) true 88 14,.v (.c 0 0) T88] 3 [[.v (.t 0) T4,.obj (.t 1) true 88 14,.v (.c 0 0) T88]] (by kernel_rfl)
noncomputable def qro(n:Nat):CL Tryz.prog:=⟨[],[qlu n],0,nof⟩
def qfx(n:Nat):Cw Tryz.prog:=mkW tab (qro n) [] Tryz.func129 [.v (.t 0) T64,.obj (.t 1) true 3 1,.v (.c 0 0) T3,.obj (.t 2) true 83 1,.obj (.c 1 0) true 88 14,.v (.c 2 0) T88,.obj (.t 3) true 3 1,.v (.c 3 0) T3] 4 [[.v (.t 0) T4,.obj (.t 1) true 3 1,.v (.c 0 0) T3,.obj (.t 2) true 83 1,.obj (.c 1 0) true 88 14,.v (.c 2 0) T88,.obj (.t 4) true 3 1,.v (.c 3 0) T3]] (by kernel_rfl)
noncomputable def qdW(n:Nat):CL Tryz.prog:=⟨[],[qfx n],0,nof⟩
def qdX(n:Nat):LK Tryz.prog false:=mkL tab (qdW n) [] Tryz.f145 [true,false,true,false,false] 0 n [.v (.t 0) T38,.v (.t 7) T3,.v (.t 8) T3,.fnc (.t 1) 129 [.box true 3 1,.box true 83 1,.box true 3 1],.v (.c 0 0) T3,.obj (.c 1 0) true 88 14,.v (.c 3 0) T88,.v (.c 2 0) T3] [(.exit 0,[.fnc (.t 1) 129 [.box true 3 1,.box true 83 1,.box true 3 1],.v (.c 0 0) T3,.obj (.c 1 0) true 88 14,.v (.c 3 0) T88,.v (.c 2 0) T3]),(.ret,[.v (.t 4) T3,.fnc (.t 1) 129 [.box true 3 1,.box true 83 1,.box true 3 1],.v (.c 0 0) T3,.obj (.c 1 0) true 88 14,.v (.c 3 0) T88,.v (.c 2 0) T3])] (by kernel_rfl)
def qd4(n:Nat):Cw Tryz.prog:=mkW tab (qdW n) [qdX n] Tryz.func145 [.v (.t 0) T38,.fnc (.t 1) 129 [.box true 3 1,.box true 83 1,.box true 3 1],.v (.c 0 0) T3,.obj (.c 1 0) true 88 14,.v (.c 3 0) T88,.v (.c 2 0) T3] 2 [[.v (.t 0) T3,.obj (.t 1) true 3 1,.obj (.t 2) true 83 1,.obj (.t 3) true 3 1,.v (.c 0 0) T3,.obj (.c 1 0) true 88 14,.v (.c 3 0) T88,.v (.c 2 0) T3]] (by kernel_rfl)
noncomputable def qg7(n:Nat):CL Tryz.prog:=⟨[],[qfx n,qP n,qd4 n],0,nof⟩
def qdI(n:Nat):Cw Tryz.prog:=mkW tab (qg7 n) [] Tryz.func109 [.v (.t 0) T38,.fnc (.t 1) 129 [.box true 3 1,.box true 83 1,.box true 3 1],.v (.c 0 0) T3,.obj (.c 1 0) true 88 14,.v (.c 3 0) T88,.v (.c 2 0) T3] 2 [[.v (.t 0) T4,.obj (.t 1) true 3 1,.obj (.t 2) true 83 1,.obj (.t 3) true 3 1,.v (.c 0 0) T3,.obj (.c 1 0) true 88 14,.v (.c 3 0) T88,.v (.c 2 0) T3]] (by kernel_rfl)
noncomputable def qsk(n:Nat):CL Tryz.prog:=⟨[],[qN n,qdI n,qlu n],0,nof⟩
def qm9(n:Nat):Cw Tryz.prog:=mkW tab (qsk n) [] Tryz.func91 [.v (.t 1) T3,.v (.t 2) T3,.obj (.t 0) true 88 14,.v (.c 0 0) T88] 3 [[.v (.t 0) T4,.obj (.t 1) true 88 14,.v (.c 0 0) T88]] (by kernel_rfl)
noncomputable def qC6(n:Nat):CL Tryz.prog:=⟨[],[],0,nof⟩
def qvC(n:Nat):Ct Tryz.prog:=mkC tab (qC6 n) [] Tryz.func92 [.d T3,.d T3] [T3] (by kernel_rfl)
noncomputable def quI(n:Nat):CL Tryz.prog:=⟨[qvC n],[qo2 n,qm9 n],0,nof⟩
def qlv(n:Nat):Cw Tryz.prog:=mkW tab (quI n) [] Tryz.func50 [.v (.t 1) T91,.v (.t 2) T95,.obj (.t 0) true 88 14,.v (.c 0 0) T88] 3 [[.v (.t 0) T3,.v (.t 1) T3,.obj (.t 2) true 88 14,.v (.c 0 0) T88]] (by kernel_rfl)
noncomputable def qxO(n:Nat):CL Tryz.prog:=⟨[],[],0,nof⟩
def qsP(n:Nat):Cw Tryz.prog:=mkW tab (qxO n) [] Tryz.func59 [.v (.t 0) T91,.obj (.t 1) true 3 1,.v (.c 0 0) T3] 2 [[.v (.t 0) T4,.obj (.t 1) true 3 1,.v (.c 0 0) T3]] (by kernel_rfl)
noncomputable def qfd(n:Nat):CL Tryz.prog:=⟨[],[qsP n],0,nof⟩
def qfe(n:Nat):LK Tryz.prog false:=mkL tab (qfd n) [] Tryz.f58 [true,false,true,false,false] 0 n [.v (.t 0) T35,.v (.t 7) T3,.v (.t 8) T3,.fnc (.t 1) 59 [.box true 3 1],.v (.c 0 0) T3] [(.exit 0,[.fnc (.t 1) 59 [.box true 3 1],.v (.c 0 0) T3]),(.ret,[.v (.t 4) T3,.fnc (.t 1) 59 [.box true 3 1],.v (.c 0 0) T3])] (by kernel_rfl)
def qfr(n:Nat):Cw Tryz.prog:=mkW tab (qfd n) [qfe n] Tryz.func58 [.v (.t 0) T35,.fnc (.t 1) 59 [.box true 3 1],.v (.c 0 0) T3] 2 [[.v (.t 0) T3,.obj (.t 1) true 3 1,.v (.c 0 0) T3]] (by kernel_rfl)
noncomputable def quJ(n:Nat):CL Tryz.prog:=⟨[],[qox n,qlv n,qX n,qR n,qbf n,qda n,qfr n],2,nof⟩
def quK(n:Nat):LK Tryz.prog false:=mkL tab (quJ n) [] Tryz.f29 [true,true,true,true,true,false,true,false,false] 0 n [.v (.t 4) T3,.v (.t 5) T3,.v (.t 8) T3,.v (.t 36) T89,.v (.t 37) T3,.v (.t 38) T3,.obj (.t 7) false 88 14,.v (.c 0 0) T88] [(.exit 0,[.v (.t 4) T3,.v (.t 5) T3])] (by kernel_rfl)
def qv1(n:Nat):Ct Tryz.prog:=mkC tab (quJ n) [quK n] Tryz.func29 [.d T41,.d T3] [T3,T3,T24] (by kernel_rfl)
end
noncomputable section
noncomputable def qxP(n:Nat):CL Tryz.prog:=⟨[qgw n],[],0,nof⟩
def qlw(n:Nat):Cw Tryz.prog:=mkW tab (qxP n) [] Tryz.func99 [.v (.t 0) T3,.v (.t 1) T3,.obj (.t 2) true 3 1,.v (.c 0 0) T3,.obj (.t 3) true 22 1,.v (.c 1 0) T22] 4 [[.v (.t 0) T3,.obj (.t 1) true 3 1,.v (.c 0 0) T3,.obj (.t 2) true 22 1,.v (.c 1 0) T22]] (by kernel_rfl)
noncomputable def qcx(n:Nat):CL Tryz.prog:=⟨[],[qlw n],0,nof⟩
def qeu(n:Nat):LK Tryz.prog false:=mkL tab (qcx n) [] Tryz.f174 [true,false,false,true,false,false,true,false,false] 1 n [.v (.t 1) T3,.v (.t 2) T3,.v (.t 8) T3,.v (.t 9) T3,.row (.t 0) true T3 3,.fnc (.t 3) 99 [.box true 3 1,.box true 22 1],.v (.c 1 0) T3,.v (.c 2 0) T22] [(.exit 2,[.v (.t 1) T3,.v (.t 2) T3,.v (.t 8) T3,.row (.t 0) true T3 3,.fnc (.t 3) 99 [.box true 3 1,.box true 22 1],.v (.c 1 0) T3,.v (.c 2 0) T22])] (by kernel_rfl)
def qev(n:Nat):LK Tryz.prog false:=mkL tab (qcx n) [qeu n] Tryz.f174 [true,false,false] 0 n [.v (.t 1) T3,.v (.t 2) T3,.v (.t 8) T3,.row (.t 0) true T3 3,.fnc (.t 3) 99 [.box true 3 1,.box true 22 1],.v (.c 1 0) T3,.v (.c 2 0) T22] [(.exit 0,[.row (.t 0) true T3 3,.fnc (.t 3) 99 [.box true 3 1,.box true 22 1],.v (.c 1 0) T3,.v (.c 2 0) T22])] (by kernel_rfl)
def qeL(n:Nat):Cw Tryz.prog:=mkW tab (qcx n) [qev n] Tryz.func174 [.v (.t 1) T3,.v (.t 2) T3,.row (.t 0) true T3 3,.fnc (.t 3) 99 [.box true 3 1,.box true 22 1],.v (.c 1 0) T3,.v (.c 2 0) T22] 4 [[.row (.t 0) true T3 3,.obj (.t 1) true 3 1,.obj (.t 2) true 22 1,.v (.c 1 0) T3,.v (.c 2 0) T22]] (by kernel_rfl)
noncomputable def qb7(n:Nat):CL Tryz.prog:=⟨[],[qlw n,qeL n],0,nof⟩
def qfP(n:Nat):LK Tryz.prog false:=mkL tab (qb7 n) [] Tryz.f132 [true,true,false,false,false] 0 n [.v (.t 1) T3,.v (.t 6) T3,.v (.t 7) T3,.v (.t 8) T3,.row (.t 0) true T3 3,.fnc (.t 2) 99 [.box true 3 1,.box true 22 1],.v (.c 1 0) T3,.v (.c 2 0) T22] [(.exit 0,[.v (.t 1) T3,.v (.t 6) T3,.v (.t 7) T3,.row (.t 0) true T3 3,.fnc (.t 2) 99 [.box true 3 1,.box true 22 1],.v (.c 1 0) T3,.v (.c 2 0) T22])] (by kernel_rfl)
def qfQ(n:Nat):LK Tryz.prog false:=mkL tab (qb7 n) [] Tryz.f132 [true,true,true,true,false,false,true,false,true,false,false,false] 2 n [.v (.t 1) T3,.v (.t 6) T3,.v (.t 7) T3,.v (.t 8) T3,.row (.t 0) true T3 3,.fnc (.t 2) 99 [.box true 3 1,.box true 22 1],.v (.c 1 0) T3,.v (.c 2 0) T22] [(.exit 4,[.v (.t 1) T3,.v (.t 6) T3,.v (.t 7) T3,.row (.t 0) true T3 3,.fnc (.t 2) 99 [.box true 3 1,.box true 22 1],.v (.c 1 0) T3,.v (.c 2 0) T22])] (by kernel_rfl)
def qfR(n:Nat):LK Tryz.prog false:=mkL tab (qb7 n) [qfQ n] Tryz.f132 [true,true,true,true,false,false] 1 n [.v (.t 1) T3,.v (.t 6) T3,.row (.t 0) true T3 3,.fnc (.t 2) 99 [.box true 3 1,.box true 22 1],.v (.c 1 0) T3,.v (.c 2 0) T22] [(.exit 2,[.row (.t 0) true T3 3,.fnc (.t 2) 99 [.box true 3 1,.box true 22 1],.v (.c 1 0) T3,.v (.c 2 0) T22])] (by kernel_rfl)
def qga(n:Nat):Cw Tryz.prog:=mkW tab (qb7 n) [qfP n,qfR n] Tryz.func132 [.v (.t 1) T3,.row (.t 0) true T3 3,.fnc (.t 2) 99 [.box true 3 1,.box true 22 1],.v (.c 1 0) T3,.v (.c 2 0) T22] 3 [[.row (.t 0) true T3 3,.obj (.t 1) true 3 1,.obj (.t 2) true 22 1,.v (.c 1 0) T3,.v (.c 2 0) T22]] (by kernel_rfl)
noncomputable def qkz(n:Nat):CL Tryz.prog:=⟨[],[qlw n,qga n],0,nof⟩
def qfS(n:Nat):Cw Tryz.prog:=mkW tab (qkz n) [] Tryz.func98 [.row (.t 0) true T3 3,.fnc (.t 1) 99 [.box true 3 1,.box true 22 1],.v (.c 1 0) T3,.v (.c 2 0) T22] 2 [[.row (.t 0) true T3 3,.obj (.t 1) true 3 1,.obj (.t 2) true 22 1,.v (.c 1 0) T3,.v (.c 2 0) T22]] (by kernel_rfl)
noncomputable def qqV(n:Nat):CL Tryz.prog:=⟨[],[qfS n],0,nof⟩
def quL(n:Nat):LK Tryz.prog false:=mkL tab (qqV n) [] Tryz.f56 [true,true,true,true,false,true,false,false] 0 n [.v (.t 7) T3,.v (.t 19) T22,.v (.t 20) T3,.v (.t 21) T3,.obj (.t 2) false 3 1,.v (.c 0 0) T3,.obj (.t 3) false 22 1,.v (.c 1 0) T22,.row (.t 5) false T3 3,.row (.t 6) false T3 3] [(.exit 0,[.v (.t 7) T3,.obj (.t 2) false 3 1,.v (.c 0 0) T3,.obj (.t 3) false 22 1,.v (.c 1 0) T22,.row (.t 5) false T3 3,.row (.t 6) false T3 3])] (by kernel_rfl)
def quM(n:Nat):LK Tryz.prog false:=mkL tab (qqV n) [] Tryz.f56 [true,true,true,true,true,true,false,true,false,false] 1 n [.v (.t 50) T3,.v (.t 51) T3,.row (.t 5) false T3 3,.row (.t 6) false T3 3,.sub (.t 49) 1] [(.exit 2,[.row (.t 5) false T3 3])] (by kernel_rfl)
def qrP(n:Nat):Ct Tryz.prog:=mkC tab (qqV n) [quL n,quM n] Tryz.func56 [.d T3,.d T22] [T22] (by kernel_rfl)
noncomputable def qpO(n:Nat):CL Tryz.prog:=⟨[qrP n],[],0,nof⟩
def qpP(n:Nat):LK Tryz.prog false:=mkL tab (qpO n) [] Tryz.f60 [true,false,false] 0 n [.v (.t 2) T3,.v (.t 19) T22,.v (.t 20) T3,.v (.t 21) T3,.obj (.t 3) true 83 1,.obj (.c 0 0) true 88 14,.v (.c 1 0) T88,.obj (.t 4) true 22 1,.row (.c 2 0) true T3 3] [(.exit 0,[.obj (.t 3) true 83 1,.obj (.c 0 0) true 88 14,.v (.c 1 0) T88,.obj (.t 4) true 22 1,.row (.c 2 0) true T3 3])] (by kernel_rfl)
def qqu(n:Nat):Cw Tryz.prog:=mkW tab (qpO n) [qpP n] Tryz.func60 [.v (.t 0) T3,.v (.t 1) T3,.v (.t 2) T3,.obj (.t 3) true 83 1,.obj (.c 0 0) true 88 14,.v (.c 1 0) T88,.obj (.t 4) true 22 1,.row (.c 2 0) true T3 3] 5 [[.obj (.t 0) true 83 1,.obj (.c 0 0) true 88 14,.v (.c 1 0) T88,.obj (.t 2) true 22 1,.row (.c 2 0) true T3 3]] (by kernel_rfl)
noncomputable def qkC(n:Nat):CL Tryz.prog:=⟨[],[qox n,qlv n,qqu n],2,nof⟩
def qr1(n:Nat):LK Tryz.prog false:=mkL tab (qkC n) [] Tryz.f31 [true,true,true,true,true,true,false,true,false,false,true,true,false,false,true,true,false,false] 1 n [.v (.t 6) T3,.v (.t 7) T3,.v (.t 48) T35,.v (.t 49) T3,.v (.t 50) T3,.v (.t 55) T89,.v (.t 56) T3,.v (.t 57) T3,.obj (.t 4) false 83 1,.obj (.c 0 0) false 88 14,.v (.c 1 0) T88,.obj (.t 8) false 22 1,.row (.c 2 0) false T3 3,.obj (.t 11) false 91 5,.v (.c 4 0) T91,.fnc (.t 9) 60 [.al 0,.al 2]] [(.exit 2,[.v (.t 6) T3,.v (.t 7) T3,.v (.t 48) T35,.v (.t 49) T3,.v (.t 50) T3,.obj (.t 4) false 83 1,.obj (.c 0 0) false 88 14,.v (.c 1 0) T88,.obj (.t 8) false 22 1,.row (.c 2 0) false T3 3,.fnc (.t 9) 60 [.al 0,.al 2]])] (by kernel_rfl)
def qr2(n:Nat):LK Tryz.prog false:=mkL tab (qkC n) [qr1 n] Tryz.f31 [true,true,true,true,true,true,false,true,false,false] 0 n [.v (.t 6) T3,.v (.t 7) T3,.v (.t 48) T35,.v (.t 49) T3,.v (.t 50) T3,.obj (.t 4) false 83 1,.obj (.c 0 0) false 88 14,.v (.c 1 0) T88,.obj (.t 8) false 22 1,.row (.c 2 0) false T3 3,.fnc (.t 9) 60 [.al 0,.al 2]] [(.exit 0,[.obj (.t 4) false 83 1,.obj (.c 0 0) false 88 14,.v (.c 1 0) T88,.obj (.t 8) false 22 1,.row (.c 2 0) false T3 3,.fnc (.t 9) 60 [.al 0,.al 2]])] (by kernel_rfl)
def qr3(n:Nat):LK Tryz.prog false:=mkL tab (qkC n) [] Tryz.f31 [true,true,true,true,true,true,true,false,true,false,false] 2 n [.v (.t 95) T39,.v (.t 96) T3,.v (.t 97) T3,.obj (.t 4) false 83 1,.obj (.c 0 0) false 88 14,.v (.c 1 0) T88,.obj (.t 8) false 22 1,.row (.c 2 0) false T3 3,.fnc (.t 9) 60 [.al 0,.al 2]] [(.exit 4,[.obj (.t 8) false 22 1,.row (.c 0 0) false T3 3])] (by kernel_rfl)
def qoD(n:Nat):Ct Tryz.prog:=mkC tab (qkC n) [qr2 n,qr3 n] Tryz.func31 [.d T41] [T22,T24] (by kernel_rfl)
end
noncomputable section
noncomputable def qt7(n:Nat):CL Tryz.prog:=⟨[],[],0,nof⟩
def qfT(n:Nat):Ct Tryz.prog:=mkC tab (qt7 n) [] Tryz.func44 [.d T3,.d T3,.d T3] [T4] (by kernel_rfl)
noncomputable def qmu(n:Nat):CL Tryz.prog:=⟨[qfT n],[],0,nof⟩
def qmv(n:Nat):LK Tryz.prog false:=mkL tab (qmu n) [] Tryz.f28 [true,true,false,true,false,false] 0 n [.v (.t 0) T22,.v (.t 3) T3,.v (.t 4) T3] [(.exit 0,[.v (.t 0) T22,.v (.t 3) T3]),(.ret,[.v (.t 2) T4])] (by kernel_rfl)
def qna(n:Nat):Ct Tryz.prog:=mkC tab (qmu n) [qmv n] Tryz.func28 [.d T22] [T4] (by kernel_rfl)
noncomputable def qt8(n:Nat):CL Tryz.prog:=⟨[qfT n],[],0,nof⟩
def qo3(n:Nat):Ct Tryz.prog:=mkC tab (qt8 n) [] Tryz.func76 [.d T41,.d T3] [T4] (by kernel_rfl)
noncomputable def qih(n:Nat):CL Tryz.prog:=⟨[qfT n],[],0,nof⟩
def qmw(n:Nat):LK Tryz.prog false:=mkL tab (qih n) [] Tryz.f75 [true,false,true,false,false,true,false,false,true,true,true,false,false] 1 n [.v (.t 3) T3,.v (.t 5) T3,.obj (.t 1) false 41 13,.v (.c 0 0) T41,.obj (.t 4) false 112 3,.v (.c 1 0) T112] [(.exit 2,[.v (.t 3) T3,.obj (.t 1) false 41 13,.v (.c 0 0) T41]),(.ret,[.v (.t 2) T4])] (by kernel_rfl)
def qmx(n:Nat):LK Tryz.prog false:=mkL tab (qih n) [qmw n] Tryz.f75 [true,false,true,false,false] 0 n [.v (.t 3) T3,.obj (.t 1) false 41 13,.v (.c 0 0) T41] [(.exit 0,[.obj (.t 1) false 41 13,.v (.c 0 0) T41]),(.ret,[.v (.t 2) T4])] (by kernel_rfl)
def qnb(n:Nat):Ct Tryz.prog:=mkC tab (qih n) [qmx n] Tryz.func75 [.d T41] [T4] (by kernel_rfl)
noncomputable def qhQ(n:Nat):CL Tryz.prog:=⟨[qna n,qfT n,qpB n,qnb n,qo3 n],[],0,nof⟩
def qo4(n:Nat):LK Tryz.prog false:=mkL tab (qhQ n) [] Tryz.f34 [true,true,true,false,true,false,false] 0 n [.v (.t 4) T3,.obj (.t 1) false 41 13,.v (.c 0 0) T41] [(.exit 0,[.obj (.t 1) false 41 13,.v (.c 0 0) T41]),(.ret,[.v (.t 2) T24])] (by kernel_rfl)
def qo5(n:Nat):LK Tryz.prog false:=mkL tab (qhQ n) [] Tryz.f34 [true,true,true,true,false,true,false,false] 1 n [.v (.t 5) T3,.obj (.t 1) false 41 13,.v (.c 0 0) T41] [(.exit 2,[.obj (.t 1) false 41 13,.v (.c 0 0) T41]),(.ret,[.v (.t 2) T24])] (by kernel_rfl)
def qo6(n:Nat):LK Tryz.prog false:=mkL tab (qhQ n) [] Tryz.f34 [true,true,true,true,true,false,true,false,false] 2 n [.v (.t 6) T3,.obj (.t 1) false 41 13,.v (.c 0 0) T41] [(.exit 4,[.obj (.t 1) false 41 13,.v (.c 0 0) T41]),(.ret,[.v (.t 2) T24])] (by kernel_rfl)
def qii(n:Nat):Ct Tryz.prog:=mkC tab (qhQ n) [qo4 n,qo5 n,qo6 n] Tryz.func34 [.d T41] [T24] (by kernel_rfl)
noncomputable def qpQ(n:Nat):CL Tryz.prog:=⟨[qm8 n,qqp n],[],0,nof⟩
def qpR(n:Nat):LK Tryz.prog false:=mkL tab (qpQ n) [] Tryz.f20 [true,true,true,true,true,true,false,true,false,false] 0 n [.v (.t 4) T3,.obj (.t 1) false 41 13,.v (.c 0 0) T41,.obj (.t 2) false 41 13,.v (.c 1 0) T41,.obj (.t 3) false 41 13,.v (.c 2 0) T34,.v (.c 2 2) T35,.v (.c 2 3) T3,.v (.c 2 4) T22,.row (.c 2 5) false T22 22,.v (.c 2 6) T37,.v (.c 2 7) T38,.v (.c 2 8) T39,.v (.c 2 9) T3,.v (.c 2 10) T3,.v (.c 2 11) T3,.v (.c 2 12) T3] [(.exit 0,[.obj (.t 1) false 41 13,.v (.c 0 0) T41,.obj (.t 2) false 41 13,.v (.c 1 0) T41,.obj (.t 3) false 41 13,.v (.c 2 0) T34,.v (.c 2 2) T35,.v (.c 2 3) T3,.v (.c 2 4) T22,.row (.c 2 5) false T22 22,.v (.c 2 6) T37,.v (.c 2 7) T38,.v (.c 2 8) T39,.v (.c 2 9) T3,.v (.c 2 10) T3,.v (.c 2 11) T3,.v (.c 2 12) T3])] (by kernel_rfl)
def qqv(n:Nat):Ct Tryz.prog:=mkC tab (qpQ n) [qpR n] Tryz.func20 [.d T41] [T41] (by kernel_rfl)
noncomputable def qqw(n:Nat):CL Tryz.prog:=⟨[qrl n],[],0,nof⟩
def qqx(n:Nat):LK Tryz.prog false:=mkL tab (qqw n) [] Tryz.f18 [true,true,false,true,false,false] 0 n [.v (.t 3) T3,.obj (.t 1) false 41 13,.v (.c 0 0) T41] [(.exit 0,[]),(.ret,[.v (.t 2) T4])] (by kernel_rfl)
def qrp(n:Nat):Ct Tryz.prog:=mkC tab (qqw n) [qqx n] Tryz.func18 [.d T41] [T4] (by kernel_rfl)
noncomputable def qtc(n:Nat):CL Tryz.prog:=⟨[qt4 n],[],0,nof⟩
def qom(n:Nat):Ct Tryz.prog:=mkC tab (qtc n) [] Tryz.func38 [] [T41] (by kernel_rfl)
end
end Go.Proofs.YtlmicgmhallkkaaGreatDoor
/- The contract of math/bits.TrailingZeros, by hand: it reads a table that is a package variable. -/
namespace Go.Proofs.YtlmicgmhallkkaaGreatDoor
open Go Go.Proofs Go.RowKit Go.Shelf
set_option maxHeartbeats 800000
attribute [local go_sem] Oper.semAt_some
def tz(s:Nat):Nat:=if s % 2=1 then 0 else if s % 4=2 then 1 else if s % 8=4 then 2 else if s % 16=8 then 3 else if s % 32=16 then 4 else if s % 64=32 then 5 else if s % 128=64 then 6 else 7
theorem qBx(s:Nat):tz s<8:=by unfold tz;repeat' split<;>try omega
def jj(k:Nat):Nat:=2 ^ k*285870213051353865 % 18446744073709551616/288230376151711744
theorem qKd(k:Nat)(hk:k<8):jj k<64:=by revert k;decide +kernel
theorem qJr(s:Nat):s<256→0<s→bits BinOp.and IntKind.u64 (s:Int) (IntKind.u64.wrap (-(s:Int)))=((2 ^ tz s:Nat):Int):=by
 revert s;decide +kernel
theorem qFK(k:Nat):k<8→IntKind.u64.wrap (((2 ^ k:Nat):Int)*285870213051353865)/288230376151711744=((jj k:Nat):Int):=by
 revert k;decide +kernel
theorem qHp(s:Nat)(hs:s<256)(h0:0<s):IntKind.u64.wrap (bits BinOp.and IntKind.u64 (s:Int) (IntKind.u64.wrap (-(s:Int)))*285870213051353865)/288230376151711744=((jj (tz s):Nat):Int):=by
 rw[qJr s hs h0];exact qFK _ (qBx s)
def qEx(w:World):Prop:=1<w.heap.size∧∀k,k<8→w.cell? ⟨1,jj k,none⟩=some (.int .u8 (k:Int))
theorem qFL(s k idx:Nat)(w:World)(hs0:((s:Int)==0)=false)
  (hE:IntKind.u64.wrap (bits BinOp.and IntKind.u64 (s:Int) (IntKind.u64.wrap (-(s:Int)))*285870213051353865)/288230376151711744=(idx:Int))
  (hj:idx<64) (hk:k<8) (hc:w.cell? ⟨1,idx,none⟩=some (.int .u8 (k:Int))) :
  Calls Tryz.prog 125 #[.int .u64 s] w fun e w'=>e = .returned (.int .i64 k)∧w=w':=by
 go_enter Tryz.func125,Tryz.ntmps125
 go_wp2_with fail
 go_ret
 exact ⟨rfl,rfl⟩
theorem qHq(s:Nat)(w:World)(hs:s<256)(h0:0<s)(ht:qEx w):Calls Tryz.prog 125 #[.int .u64 s] w fun e w'=>e = .returned (.int .i64 (tz s))∧w=w' :=
 qFL s (tz s) (jj (tz s)) w (by simp;omega) (qHp s hs h0) (qKd (tz s) (qBx s)) (qBx s) (ht.2 (tz s) (qBx s))
theorem qII(s:Nat)(w:World)(hs:s<256)(h0:0<s)(ht:qEx w):Calls Tryz.prog 84 #[.int .u64 s] w fun e w'=>e = .returned (.int .i64 (tz s))∧w=w':=by
 have hs0:(0:Int)≤s:=by omega
 go_enter Tryz.func84,Tryz.ntmps84
 go_wp2_with (go_at_call 125;refine (qHq _ _ hs h0 ht).mono ?_;rintro e w1 ⟨rfl,rfl⟩)
 go_ret
 exact ⟨rfl,rfl⟩
theorem qFM:∀k,k<8→(1,(jj k,Value.int .u8 (k:Int)))∈gTab
 | 0,_=>List.mem_of_getElem? (i:=0) rfl
 | 1,_=>List.mem_of_getElem? (i:=1) rfl
 | 2,_=>List.mem_of_getElem? (i:=2) rfl
 | 3,_=>List.mem_of_getElem? (i:=3) rfl
 | 4,_=>List.mem_of_getElem? (i:=4) rfl
 | 5,_=>List.mem_of_getElem? (i:=5) rfl
 | 6,_=>List.mem_of_getElem? (i:=6) rfl
 | 7,_=>List.mem_of_getElem? (i:=7) rfl
 | k+8,h=>absurd h (by omega)
theorem qHr{w:World}(h:Gl w):qEx w:=⟨h.lt (qFM 0 (by decide)),fun k hk=>h _ (qFM k hk)⟩
def tzB(x:Int):Bool:=decide (0<x)&&decide (x<256)
noncomputable def tz_M(n:Nat)(x:qgV [.d (.i .u64)]):Option (qT [.i .i64]):=cond (tzB x.1) (some ((tz (Int.toNat x.1):Int),())) none
noncomputable def tz_C(n:Nat):Ct Tryz.prog:=⟨84,[.d (.i .u64)],.ts [.i .i64],tz_M n,fun x y h=>by
 obtain ⟨z,u⟩:=x
 change Int at z
 unfold tz_M at h
 cases hc:tzB z with
 | false=>simp only[hc,cond_false] at h;cases h
 | true =>
  simp only[hc,cond_true] at h
  injection h with h
  subst h
  unfold tzB at hc
  simp only[Bool.and_eq_true,decide_eq_true_eq] at hc
  obtain ⟨s,hs⟩:=Int.eq_ofNat_of_zero_le (show 0≤z by omega)
  subst hs
  refine ⟨enters_of (c:=qy Tryz.f84) Tryz.func84 (by kernel_rfl) (by kernel_rfl),fun w S vs hG hn henc=>?_⟩
  have h0:=henc 0 (.val (.int .u64 s)) rfl
  obtain ⟨v,rfl⟩:∃v,vs = #[v]:=by
   obtain ⟨l⟩:=vs
   match l,hn with
   | [v],_=>exact ⟨v,rfl⟩
  have h1:v = .int .u64 s:=h0.val_eq
  subst h1
  refine (qII s w (by omega) (by omega) (qHr hG)).mono fun e w' ⟨e1,e2⟩=>?_
  subst e2
  exact ⟨Ext.refl _,_,e1,.val _⟩⟩
noncomputable section
noncomputable def qiS(n:Nat):CL Tryz.prog:=⟨[],[],0,fun _=>false⟩
noncomputable def qnc(n:Nat):Nat→St→PT (DEx×St):=fun _ _=>.fail
theorem qtd(n:Nat):qbi (qiS n).c (qy Tryz.f48) 0=[]:=by kernel_rfl
theorem qte:Tryz.f48.body=some (qy Tryz.f48):=by kernel_rfl
abbrev qiT:List It:=[.raw (.t 0)]
abbrev qij:List (List It):=[[.row (.t 0) false T3 3]]
noncomputable def qgR(n:Nat)(x:qh qiT):Option (qbD qij):=runW tab (qiS n) (qnc n) (qy Tryz.f48) qiT 1 8 [.tmp 2] qij x
noncomputable def qtf(n:Nat):Cw Tryz.prog:=⟨48,1,qiT,1,qij,qgR n,fun _ _ h=>qob (B:=tab) (cs:=qiS n) (lo:=qnc n) (rs:=[.tmp 2]) Tryz.func48 (by kernel_rfl) qte (by kernel_rfl) (by decide) (qlr (qtd n) all_nil) h⟩
noncomputable def qlx(n:Nat):CL Tryz.prog:=⟨[],[],0,fun _=>false⟩
noncomputable def qpS(n:Nat):Nat→St→PT (DEx×St):=fun _ _=>.fail
theorem qv7(n:Nat):qbi (qlx n).c (qy Tryz.f48) 0=[]:=by kernel_rfl
theorem qv8:Tryz.f48.body=some (qy Tryz.f48):=by kernel_rfl
abbrev qly:List It:=[.v (.t 0) T22]
abbrev qhR:List (List It):=[[.row (.t 0) false T3 3]]
noncomputable def qqy(n:Nat)(x:qh qly):Option (qbD qhR):=runW tab (qlx n) (qpS n) (qy Tryz.f48) qly 1 8 [.tmp 2] qhR x
noncomputable def qv9(n:Nat):Cw Tryz.prog:=⟨48,1,qly,1,qhR,qqy n,fun _ _ h=>qob (B:=tab) (cs:=qlx n) (lo:=qpS n) (rs:=[.tmp 2]) Tryz.func48 (by kernel_rfl) qv8 (by kernel_rfl) (by decide) (qlr (qv7 n) all_nil) h⟩
end
theorem qwa(n:Nat)(c:Nat):qgR n (.slice none 0 c,())=some ([],()):=by kernel_rfl
theorem qwb(n:Nat)(a:Addr)(c:Nat):qgR n (.slice (some a) 0 c,())=some ([],()):=by kernel_rfl
noncomputable def qqz(n:Nat):Cw Tryz.prog:=qDJ 48 T3 qhR (qgR n) (qqy n) ([],()) (fun v y m0 h=>(qtf n).okk (x:=(v,())) (y:=y) h m0 (qvA m0)) (fun l y m0 h=>(qv9 n).okk (x:=(l,())) (y:=y) h m0 (qvA m0)) (fun A c=>by cases A with | none=>exact qwa n c | some a=>exact qwb n a c)
noncomputable def qwc(n:Nat):=(qqz n).M
noncomputable section
noncomputable def qnV(n:Nat):CL Tryz.prog:=⟨[],[],0,nof⟩
def qtg(n:Nat):LK Tryz.prog false:=mkL tab (qnV n) [] Tryz.f90 [true,false,true,false,false] 0 n [.v (.t 1) T3,.v (.t 11) T37,.v (.t 12) T3,.v (.t 13) T3,.obj (.t 0) true 88 14,.v (.c 0 0) T34,.v (.c 0 2) T35,.v (.c 0 3) T3,.row (.c 0 4) true T3 3,.v (.c 0 5) T36,.v (.c 0 6) T37,.v (.c 0 7) T38,.v (.c 0 8) T39,.v (.c 0 9) T3,.v (.c 0 10) T3,.v (.c 0 11) T3,.v (.c 0 12) T3,.v (.c 0 13) T35,.obj (.t 4) false 112 3,.v (.c 2 0) T112] [(.exit 0,[.v (.t 1) T3,.obj (.t 0) true 88 14,.v (.c 0 0) T34,.v (.c 0 2) T35,.v (.c 0 3) T3,.row (.c 0 4) true T3 3,.v (.c 0 5) T36,.v (.c 0 6) T37,.v (.c 0 7) T38,.v (.c 0 8) T39,.v (.c 0 9) T3,.v (.c 0 10) T3,.v (.c 0 11) T3,.v (.c 0 12) T3,.v (.c 0 13) T35,.obj (.t 4) false 112 3,.v (.c 2 0) T112]),(.ret,[.obj (.t 0) true 88 14,.v (.c 0 0) T34,.v (.c 0 2) T35,.v (.c 0 3) T3,.row (.c 0 4) true T3 3,.v (.c 0 5) T36,.v (.c 0 6) T37,.v (.c 0 7) T38,.v (.c 0 8) T39,.v (.c 0 9) T3,.v (.c 0 10) T3,.v (.c 0 11) T3,.v (.c 0 12) T3,.v (.c 0 13) T35,.obj (.t 4) false 112 3,.v (.c 2 0) T112])] (by kernel_rfl)
def qt9(n:Nat):Cw Tryz.prog:=mkW tab (qnV n) [qtg n] Tryz.func90 [.v (.t 1) T3,.obj (.t 0) true 88 14,.v (.c 0 0) T34,.v (.c 0 2) T35,.v (.c 0 3) T3,.row (.c 0 4) true T3 3,.v (.c 0 5) T36,.v (.c 0 6) T37,.v (.c 0 7) T38,.v (.c 0 8) T39,.v (.c 0 9) T3,.v (.c 0 10) T3,.v (.c 0 11) T3,.v (.c 0 12) T3,.v (.c 0 13) T35] 2 [[.v (.t 0) T112,.obj (.t 1) true 88 14,.v (.c 0 0) T34,.v (.c 0 2) T35,.v (.c 0 3) T3,.row (.c 0 4) true T3 3,.v (.c 0 5) T36,.v (.c 0 6) T37,.v (.c 0 7) T38,.v (.c 0 8) T39,.v (.c 0 9) T3,.v (.c 0 10) T3,.v (.c 0 11) T3,.v (.c 0 12) T3,.v (.c 0 13) T35]] (by kernel_rfl)
noncomputable def qua(n:Nat):CL Tryz.prog:=⟨[],[],0,nof⟩
def qo7(n:Nat):Cw Tryz.prog:=mkW tab (qua n) [] Tryz.func128 [.v (.t 1) T3,.v (.t 2) T3,.obj (.t 0) true 88 14,.v (.c 0 0) T34,.v (.c 0 2) T35,.v (.c 0 3) T3,.row (.c 0 4) true T3 3,.v (.c 0 5) T36,.v (.c 0 6) T37,.v (.c 0 7) T38,.v (.c 0 8) T39,.v (.c 0 9) T3,.v (.c 0 10) T3,.v (.c 0 11) T3,.v (.c 0 12) T3,.v (.c 0 13) T35] 3 [[.v (.t 0) T4,.obj (.t 1) true 88 14,.v (.c 0 0) T34,.v (.c 0 2) T35,.v (.c 0 3) T3,.row (.c 0 4) true T3 3,.v (.c 0 5) T36,.v (.c 0 6) T37,.v (.c 0 7) T38,.v (.c 0 8) T39,.v (.c 0 9) T3,.v (.c 0 10) T3,.v (.c 0 11) T3,.v (.c 0 12) T3,.v (.c 0 13) T35]] (by kernel_rfl)
noncomputable def qqW(n:Nat):CL Tryz.prog:=⟨[],[qo7 n],0,nof⟩
def qlg(n:Nat):Cw Tryz.prog:=mkW tab (qqW n) [] Tryz.func129 [.v (.t 0) T64,.obj (.t 1) true 3 1,.v (.c 0 0) T3,.obj (.t 2) true 83 1,.obj (.c 1 0) true 88 14,.v (.c 2 0) T34,.v (.c 2 2) T35,.v (.c 2 3) T3,.row (.c 2 4) true T3 3,.v (.c 2 5) T36,.v (.c 2 6) T37,.v (.c 2 7) T38,.v (.c 2 8) T39,.v (.c 2 9) T3,.v (.c 2 10) T3,.v (.c 2 11) T3,.v (.c 2 12) T3,.v (.c 2 13) T35,.obj (.t 3) true 3 1,.v (.c 4 0) T3] 4 [[.v (.t 0) T4,.obj (.t 1) true 3 1,.v (.c 0 0) T3,.obj (.t 2) true 83 1,.obj (.c 1 0) true 88 14,.v (.c 2 0) T34,.v (.c 2 2) T35,.v (.c 2 3) T3,.row (.c 2 4) true T3 3,.v (.c 2 5) T36,.v (.c 2 6) T37,.v (.c 2 7) T38,.v (.c 2 8) T39,.v (.c 2 9) T3,.v (.c 2 10) T3,.v (.c 2 11) T3,.v (.c 2 12) T3,.v (.c 2 13) T35,.obj (.t 5) true 3 1,.v (.c 4 0) T3]] (by kernel_rfl)
noncomputable def qdP(n:Nat):CL Tryz.prog:=⟨[],[qlg n],0,nof⟩
def qhz(n:Nat):LK Tryz.prog false:=mkL tab (qdP n) [] Tryz.f145 [true,false,true,false,false] 0 n [.v (.t 0) T38,.v (.t 7) T3,.v (.t 8) T3,.fnc (.t 1) 129 [.box true 3 1,.box true 83 1,.box true 3 1],.v (.c 0 0) T3,.obj (.c 1 0) true 88 14,.v (.c 3 0) T34,.v (.c 3 2) T35,.v (.c 3 3) T3,.row (.c 3 4) true T3 3,.v (.c 3 5) T36,.v (.c 3 6) T37,.v (.c 3 7) T38,.v (.c 3 8) T39,.v (.c 3 9) T3,.v (.c 3 10) T3,.v (.c 3 11) T3,.v (.c 3 12) T3,.v (.c 3 13) T35,.v (.c 2 0) T3] [(.exit 0,[.fnc (.t 1) 129 [.box true 3 1,.box true 83 1,.box true 3 1],.v (.c 0 0) T3,.obj (.c 1 0) true 88 14,.v (.c 3 0) T34,.v (.c 3 2) T35,.v (.c 3 3) T3,.row (.c 3 4) true T3 3,.v (.c 3 5) T36,.v (.c 3 6) T37,.v (.c 3 7) T38,.v (.c 3 8) T39,.v (.c 3 9) T3,.v (.c 3 10) T3,.v (.c 3 11) T3,.v (.c 3 12) T3,.v (.c 3 13) T35,.v (.c 2 0) T3]),(.ret,[.v (.t 4) T3,.fnc (.t 1) 129 [.box true 3 1,.box true 83 1,.box true 3 1],.v (.c 0 0) T3,.obj (.c 1 0) true 88 14,.v (.c 3 0) T34,.v (.c 3 2) T35,.v (.c 3 3) T3,.row (.c 3 4) true T3 3,.v (.c 3 5) T36,.v (.c 3 6) T37,.v (.c 3 7) T38,.v (.c 3 8) T39,.v (.c 3 9) T3,.v (.c 3 10) T3,.v (.c 3 11) T3,.v (.c 3 12) T3,.v (.c 3 13) T35,.v (.c 2 0) T3])] (by kernel_rfl)
def qhE(n:Nat):Cw Tryz.prog:=mkW tab (qdP n) [qhz n] Tryz.func145 [.v (.t 0) T38,.fnc (.t 1) 129 [.box true 3 1,.box true 83 1,.box true 3 1],.v (.c 0 0) T3,.obj (.c 1 0) true 88 14,.v (.c 3 0) T34,.v (.c 3 2) T35,.v (.c 3 3) T3,.row (.c 3 4) true T3 3,.v (.c 3 5) T36,.v (.c 3 6) T37,.v (.c 3 7) T38,.v (.c 3 8) T39,.v (.c 3 9) T3,.v (.c 3 10) T3,.v (.c 3 11) T3,.v (.c 3 12) T3,.v (.c 3 13) T35,.v (.c 2 0) T3] 2 [[.v (.t 0) T3,.obj (.t 1) true 3 1,.obj (.t 2) true 83 1,.obj (.t 3) true 3 1,.v (.c 0 0) T3,.obj (.c 1 0) true 88 14,.v (.c 3 0) T34,.v (.c 3 2) T35,.v (.c 3 3) T3,.row (.c 3 4) true T3 3,.v (.c 3 5) T36,.v (.c 3 6) T37,.v (.c 3 7) T38,.v (.c 3 8) T39,.v (.c 3 9) T3,.v (.c 3 10) T3,.v (.c 3 11) T3,.v (.c 3 12) T3,.v (.c 3 13) T35,.v (.c 2 0) T3]] (by kernel_rfl)
noncomputable def qgW(n:Nat):CL Tryz.prog:=⟨[],[qfx n,qlg n,qhE n],0,nof⟩
def qg8(n:Nat):Cw Tryz.prog:=mkW tab (qgW n) [] Tryz.func109 [.v (.t 0) T38,.fnc (.t 1) 129 [.box true 3 1,.box true 83 1,.box true 3 1],.v (.c 0 0) T3,.obj (.c 1 0) true 88 14,.v (.c 3 0) T34,.v (.c 3 2) T35,.v (.c 3 3) T3,.row (.c 3 4) true T3 3,.v (.c 3 5) T36,.v (.c 3 6) T37,.v (.c 3 7) T38,.v (.c 3 8) T39,.v (.c 3 9) T3,.v (.c 3 10) T3,.v (.c 3 11) T3,.v (.c 3 12) T3,.v (.c 3 13) T35,.v (.c 2 0) T3] 2 [[.v (.t 0) T4,.obj (.t 1) true 3 1,.obj (.t 2) true 83 1,.obj (.t 3) true 3 1,.v (.c 0 0) T3,.obj (.c 1 0) true 88 14,.v (.c 3 0) T34,.v (.c 3 2) T35,.v (.c 3 3) T3,.row (.c 3 4) true T3 3,.v (.c 3 5) T36,.v (.c 3 6) T37,.v (.c 3 7) T38,.v (.c 3 8) T39,.v (.c 3 9) T3,.v (.c 3 10) T3,.v (.c 3 11) T3,.v (.c 3 12) T3,.v (.c 3 13) T35,.v (.c 2 0) T3]] (by kernel_rfl)
noncomputable def qrQ(n:Nat):CL Tryz.prog:=⟨[],[qg8 n,qo7 n],0,nof⟩
def qsl(n:Nat):Cw Tryz.prog:=mkW tab (qrQ n) [] Tryz.func91 [.v (.t 1) T3,.v (.t 2) T3,.obj (.t 0) true 88 14,.v (.c 0 0) T34,.v (.c 0 2) T35,.v (.c 0 3) T3,.row (.c 0 4) true T3 3,.v (.c 0 5) T36,.v (.c 0 6) T37,.v (.c 0 7) T38,.v (.c 0 8) T39,.v (.c 0 9) T3,.v (.c 0 10) T3,.v (.c 0 11) T3,.v (.c 0 12) T3,.v (.c 0 13) T35] 3 [[.v (.t 0) T4,.obj (.t 1) true 88 14,.v (.c 0 0) T34,.v (.c 0 2) T35,.v (.c 0 3) T3,.row (.c 0 4) true T3 3,.v (.c 0 5) T36,.v (.c 0 6) T37,.v (.c 0 7) T38,.v (.c 0 8) T39,.v (.c 0 9) T3,.v (.c 0 10) T3,.v (.c 0 11) T3,.v (.c 0 12) T3,.v (.c 0 13) T35]] (by kernel_rfl)
noncomputable def qub(n:Nat):CL Tryz.prog:=⟨[qvC n],[qt9 n,qsl n],0,nof⟩
def quN(n:Nat):Cw Tryz.prog:=mkW tab (qub n) [] Tryz.func50 [.v (.t 1) T91,.v (.t 2) T95,.obj (.t 0) true 88 14,.v (.c 0 0) T34,.v (.c 0 2) T35,.v (.c 0 3) T3,.row (.c 0 4) true T3 3,.v (.c 0 5) T36,.v (.c 0 6) T37,.v (.c 0 7) T38,.v (.c 0 8) T39,.v (.c 0 9) T3,.v (.c 0 10) T3,.v (.c 0 11) T3,.v (.c 0 12) T3,.v (.c 0 13) T35] 3 [[.v (.t 0) T3,.v (.t 1) T3,.obj (.t 2) true 88 14,.v (.c 0 0) T34,.v (.c 0 2) T35,.v (.c 0 3) T3,.row (.c 0 4) true T3 3,.v (.c 0 5) T36,.v (.c 0 6) T37,.v (.c 0 7) T38,.v (.c 0 8) T39,.v (.c 0 9) T3,.v (.c 0 10) T3,.v (.c 0 11) T3,.v (.c 0 12) T3,.v (.c 0 13) T35]] (by kernel_rfl)
noncomputable def qnd(n:Nat):CL Tryz.prog:=⟨[],[quN n],0,nof⟩
def qwY(n:Nat):LK Tryz.prog false:=mkL tab (qnd n) [] Tryz.f49 [true,true,true,false,true,false,false,true,true,false,false,true,true,false,false] 1 n [.v (.t 6) T3,.v (.t 24) T35,.v (.t 25) T3,.v (.t 26) T3,.v (.t 31) T89,.v (.t 32) T3,.v (.t 33) T3,.obj (.t 1) true 83 1,.obj (.c 0 0) true 88 14,.v (.c 1 0) T34,.v (.c 1 2) T35,.v (.c 1 3) T3,.row (.c 1 4) true T3 3,.v (.c 1 5) T36,.v (.c 1 6) T37,.v (.c 1 7) T38,.v (.c 1 8) T39,.v (.c 1 9) T3,.v (.c 1 10) T3,.v (.c 1 11) T3,.v (.c 1 12) T3,.v (.c 1 13) T35,.obj (.t 2) true 3 1,.v (.c 3 0) T3,.obj (.t 3) true 3 1,.v (.c 4 0) T3,.obj (.t 8) false 91 5,.v (.c 5 0) T91] [(.exit 2,[.v (.t 6) T3,.v (.t 24) T35,.v (.t 25) T3,.v (.t 26) T3,.obj (.t 1) true 83 1,.obj (.c 0 0) true 88 14,.v (.c 1 0) T34,.v (.c 1 2) T35,.v (.c 1 3) T3,.row (.c 1 4) true T3 3,.v (.c 1 5) T36,.v (.c 1 6) T37,.v (.c 1 7) T38,.v (.c 1 8) T39,.v (.c 1 9) T3,.v (.c 1 10) T3,.v (.c 1 11) T3,.v (.c 1 12) T3,.v (.c 1 13) T35,.obj (.t 2) true 3 1,.v (.c 3 0) T3,.obj (.t 3) true 3 1,.v (.c 4 0) T3])] (by kernel_rfl)
def qwZ(n:Nat):LK Tryz.prog false:=mkL tab (qnd n) [qwY n] Tryz.f49 [true,true,true,false,true,false,false] 0 n [.v (.t 6) T3,.v (.t 24) T35,.v (.t 25) T3,.v (.t 26) T3,.obj (.t 1) true 83 1,.obj (.c 0 0) true 88 14,.v (.c 1 0) T34,.v (.c 1 2) T35,.v (.c 1 3) T3,.row (.c 1 4) true T3 3,.v (.c 1 5) T36,.v (.c 1 6) T37,.v (.c 1 7) T38,.v (.c 1 8) T39,.v (.c 1 9) T3,.v (.c 1 10) T3,.v (.c 1 11) T3,.v (.c 1 12) T3,.v (.c 1 13) T35,.obj (.t 2) true 3 1,.v (.c 3 0) T3,.obj (.t 3) true 3 1,.v (.c 4 0) T3] [(.exit 0,[.v (.t 6) T3,.obj (.t 1) true 83 1,.obj (.c 0 0) true 88 14,.v (.c 1 0) T34,.v (.c 1 2) T35,.v (.c 1 3) T3,.row (.c 1 4) true T3 3,.v (.c 1 5) T36,.v (.c 1 6) T37,.v (.c 1 7) T38,.v (.c 1 8) T39,.v (.c 1 9) T3,.v (.c 1 10) T3,.v (.c 1 11) T3,.v (.c 1 12) T3,.v (.c 1 13) T35,.obj (.t 2) true 3 1,.v (.c 3 0) T3,.obj (.t 3) true 3 1,.v (.c 4 0) T3])] (by kernel_rfl)
def qr4(n:Nat):Cw Tryz.prog:=mkW tab (qnd n) [qwZ n] Tryz.func49 [.v (.t 0) T3,.obj (.t 1) true 83 1,.obj (.c 0 0) true 88 14,.v (.c 1 0) T34,.v (.c 1 2) T35,.v (.c 1 3) T3,.row (.c 1 4) true T3 3,.v (.c 1 5) T36,.v (.c 1 6) T37,.v (.c 1 7) T38,.v (.c 1 8) T39,.v (.c 1 9) T3,.v (.c 1 10) T3,.v (.c 1 11) T3,.v (.c 1 12) T3,.v (.c 1 13) T35,.obj (.t 2) true 3 1,.v (.c 3 0) T3,.obj (.t 3) true 3 1,.v (.c 4 0) T3] 4 [[.v (.t 0) T4,.obj (.t 1) true 83 1,.obj (.c 0 0) true 88 14,.v (.c 1 0) T34,.v (.c 1 2) T35,.v (.c 1 3) T3,.row (.c 1 4) true T3 3,.v (.c 1 5) T36,.v (.c 1 6) T37,.v (.c 1 7) T38,.v (.c 1 8) T39,.v (.c 1 9) T3,.v (.c 1 10) T3,.v (.c 1 11) T3,.v (.c 1 12) T3,.v (.c 1 13) T35,.obj (.t 4) true 3 1,.v (.c 3 0) T3,.obj (.t 5) true 3 1,.v (.c 4 0) T3]] (by kernel_rfl)
noncomputable def quO(n:Nat):CL Tryz.prog:=⟨[qea n],[qox n,qqz n,qr4 n],2,nof⟩
def quP(n:Nat):LK Tryz.prog false:=mkL tab (quO n) [] Tryz.f19 [true,true,true,true,true,true,true,true,false,false,false] 0 n [.v (.t 11) T3,.v (.t 12) T3,.obj (.t 4) false 3 1,.v (.c 0 0) T3,.obj (.t 5) false 3 1,.v (.c 1 0) T3,.obj (.t 8) false 83 1,.obj (.c 2 0) false 88 14,.v (.c 3 0) T34,.v (.c 3 2) T35,.v (.c 3 3) T3,.row (.c 3 4) false T3 3,.v (.c 3 5) T36,.v (.c 3 6) T37,.v (.c 3 7) T38,.v (.c 3 8) T39,.v (.c 3 9) T3,.v (.c 3 10) T3,.v (.c 3 11) T3,.v (.c 3 12) T3,.v (.c 3 13) T35,.fnc (.t 10) 49 [.al 2,.al 0,.al 1]] [(.exit 0,[.v (.t 12) T3])] (by kernel_rfl)
def qv2(n:Nat):Ct Tryz.prog:=mkC tab (quO n) [quP n] Tryz.func19 [.d T41,.d T3,.d T3] [T3,T24] (by kernel_rfl)
end
noncomputable section
noncomputable def quQ(n:Nat):CL Tryz.prog:=⟨[qea n],[],0,nof⟩
def qz6(n:Nat):LK Tryz.prog false:=mkL tab (quQ n) [] Tryz.f40 [true,true,true,false,true,false,false] 0 n [.v (.t 0) T22,.v (.t 4) T3,.v (.t 10) T22,.v (.t 11) T3,.v (.t 12) T3] [(.exit 0,[.v (.t 0) T22,.v (.t 4) T3]),(.ret,[.v (.t 2) T72,.v (.t 3) T24])] (by kernel_rfl)
def qBl(n:Nat):Ct Tryz.prog:=mkC tab (quQ n) [qz6 n] Tryz.func40 [.d T22] [T72,T24] (by kernel_rfl)
noncomputable def qpT(n:Nat):CL Tryz.prog:=⟨[],[],0,nof⟩
def qvD(n:Nat):LK Tryz.prog false:=mkL tab (qpT n) [] Tryz.f42 [true,false,true,false,false] 0 n [.v (.t 2) T70,.v (.t 5) T72,.v (.t 6) T3,.v (.t 7) T3] [(.exit 0,[.v (.t 2) T70])] (by kernel_rfl)
def qwd(n:Nat):Ct Tryz.prog:=mkC tab (qpT n) [qvD n] Tryz.func42 [.d T72] [T70] (by kernel_rfl)
noncomputable def qqA(n:Nat):CL Tryz.prog:=⟨[tz_C n],[],0,nof⟩
def qwe(n:Nat):LK Tryz.prog false:=mkL tab (qqA n) [] Tryz.f83 [true,false,false,false] 0 n [.v (.t 0) T72,.v (.t 1) T70,.v (.t 4) T3] [(.exit 0,[.v (.t 4) T3])] (by kernel_rfl)
def qw0(n:Nat):Ct Tryz.prog:=mkC tab (qqA n) [qwe n] Tryz.func83 [.d T72,.d T70] [T3] (by kernel_rfl)
abbrev qw:List It:=[.v (.t 0) T70,.obj (.t 1) true 133 1,.mpi (.c 0 0) true T70 T75,.obj (.t 2) true 72 1,.v (.c 2 0) T72,.obj (.t 3) true 76 1,.fnc (.c 3 0) 82 [.al 0,.al 2,.al 3]]
abbrev qv:List (List It):=[[.v (.t 0) T75,.obj (.t 1) true 133 1,.mpi (.c 0 0) true T70 T75,.obj (.t 3) true 72 1,.v (.c 2 0) T72,.obj (.t 4) true 76 1,.fnc (.c 3 0) 82 [.al 0,.al 2,.al 3]]]
abbrev qi:Type:={g:qh qw→Option (qbD qv) // qtI Tryz.prog 82 4 qw 1 qv g}
noncomputable def qM(n:Nat)(g:qi):CL Tryz.prog:=⟨[qw0 n],[⟨82,4,qw,1,qv,g.1,g.2⟩],0,fun _=>false⟩
noncomputable def qeM(n:Nat)(g:qi):Nat→St→PT (DEx×St):=fun _ _=>.fail
abbrev qZ:List It:=[.v (.t 0) T70,.v (.t 8) T70,.v (.t 9) T70,.v (.t 11) T70,.obj (.t 1) true 133 1,.mpi (.c 0 0) true T70 T75,.obj (.t 2) true 72 1,.v (.c 2 0) T72,.obj (.t 3) true 76 1,.fnc (.c 3 0) 82 [.al 0,.al 2,.al 3],.row (.t 10) false T70 70]
abbrev qbA:List (DEx×List It):=[(.exit 0,[.v (.t 0) T70,.obj (.t 1) true 133 1,.mpi (.c 0 0) true T70 T75,.obj (.t 2) true 72 1,.v (.c 2 0) T72,.obj (.t 3) true 76 1,.fnc (.c 3 0) 82 [.al 0,.al 2,.al 3],.row (.t 10) false T70 70])]
noncomputable def qje(n:Nat)(g:qi)(rec:qh qZ→Option (qbE qbA))(s:qh qZ):Option (qbE qbA):=(qgi tab (qM n g) (qeM n g) (subC [true,true,true,true,true,false,true,false,false] (qy Tryz.f82)) 1 (mkS qZ 62 s)).run (Lp.leaf 62 qZ qbA rec)
noncomputable def qcL(n:Nat)(g:qi):Lp:=⟨62,qZ,qbA,qb n (qje n g)⟩
theorem qjf(n:Nat)(g:qi):qbi (qM n g).c (subC [true,true,true,true,true,false,true,false,false] (qy Tryz.f82)) 1=[]:=by kernel_rfl
theorem qik(n:Nat)(g:qi)(st:St)(r:DEx×St)(h:((qcL n g).go st).Is r):DA Tryz.prog false (.loop (subC [true,true,true,true,true,false,true,false,false] (qy Tryz.f82))) st r:=Lp.ok (L:=qcL n g) (B:=tab) (cs:=qM n g) (lo:=qeM n g) (id:=0) rfl (qlr (qjf n g) all_nil) (fun _ _=>rfl) h
noncomputable def qeS(n:Nat)(g:qi):Nat→St→PT (DEx×St):=fun k st=>match k with
 | 0=>(qcL n g).go st
 | _=>.fail
theorem qjn(n:Nat)(g:qi):qbi (qM n g).c (qy Tryz.f82) 0=[(0,.loop (subC [true,true,true,true,true,false,true,false,false] (qy Tryz.f82)))]:=by kernel_rfl
theorem qjo:Tryz.f82.body=some (qy Tryz.f82):=by kernel_rfl
noncomputable def qeT(n:Nat)(g:qi)(x:qh qw):Option (qbD qv):=runW tab (qM n g) (qeS n g) (qy Tryz.f82) qw 4 62 [.tmp 5] qv x
theorem qjg(n:Nat)(g:qi):qtI Tryz.prog 82 4 qw 1 qv (qeT n g):=fun _ _ h=>qob (B:=tab) (cs:=qM n g) (lo:=qeS n g) (rs:=[.tmp 5]) Tryz.func82 (by kernel_rfl) qjo (by kernel_rfl) (by decide) (qlr (qjn n g) (all_cons (fun st r h=>qik n g st r h) all_nil)) h
noncomputable def qbK(n:Nat):Nat→qi
 | 0=>⟨fun _=>none,fun _ _ h=>by cases h⟩
 | k+1=>⟨qeT n (qbK n k),qjg n (qbK n k)⟩
noncomputable def qjp(n:Nat)(x:qh qw):Option (qbD qv):=(qbK n n).1 x
noncomputable def qjq(n:Nat):Cw Tryz.prog:=⟨82,4,qw,1,qv,qjp n,(qbK n n).2⟩
noncomputable def quc(n:Nat):CL Tryz.prog:=⟨[],[qjq n],0,nof⟩
def quR(n:Nat):Ct Tryz.prog:=mkC tab (quc n) [] Tryz.func41 [.d T72,.d T70] [T75] (by kernel_rfl)
noncomputable def qz7(n:Nat):CL Tryz.prog:=⟨[qgw n],[],0,nof⟩
def qrR(n:Nat):Ct Tryz.prog:=mkC tab (qz7 n) [] Tryz.func86 [.d T138,.d T138] [T3] (by kernel_rfl)
noncomputable def qb2(n:Nat):CL Tryz.prog:=⟨[qrR n],[],0,nof⟩
def qhF(n:Nat):LK Tryz.prog false:=mkL tab (qb2 n) [] Tryz.f171 [true,false,false,true,false,false,true,false,false] 1 n [.v (.t 1) T3,.v (.t 2) T3,.fn (.t 3) 86 [] [],.v (.t 8) T3,.v (.t 9) T3,.row (.t 0) true T138 138] [(.exit 2,[.v (.t 1) T3,.v (.t 2) T3,.fn (.t 3) 86 [] [],.v (.t 8) T3,.row (.t 0) true T138 138])] (by kernel_rfl)
def qhG(n:Nat):LK Tryz.prog false:=mkL tab (qb2 n) [qhF n] Tryz.f171 [true,false,false] 0 n [.v (.t 1) T3,.v (.t 2) T3,.fn (.t 3) 86 [] [],.v (.t 8) T3,.row (.t 0) true T138 138] [(.exit 0,[.row (.t 0) true T138 138])] (by kernel_rfl)
def qh0(n:Nat):Cw Tryz.prog:=mkW tab (qb2 n) [qhG n] Tryz.func171 [.v (.t 1) T3,.v (.t 2) T3,.fn (.t 3) 86 [] [],.row (.t 0) true T138 138] 4 [[.row (.t 0) true T138 138]] (by kernel_rfl)
noncomputable def qbL(n:Nat):CL Tryz.prog:=⟨[qrR n],[qh0 n],0,nof⟩
def qjr(n:Nat):LK Tryz.prog false:=mkL tab (qbL n) [] Tryz.f126 [true,true,false,false,false] 0 n [.v (.t 1) T3,.fn (.t 2) 86 [] [],.v (.t 6) T3,.v (.t 7) T3,.v (.t 8) T3,.row (.t 0) true T138 138] [(.exit 0,[.v (.t 1) T3,.fn (.t 2) 86 [] [],.v (.t 6) T3,.v (.t 7) T3,.row (.t 0) true T138 138])] (by kernel_rfl)
def qjs(n:Nat):LK Tryz.prog false:=mkL tab (qbL n) [] Tryz.f126 [true,true,true,true,false,false,true,false,true,false,false,false] 2 n [.v (.t 1) T3,.fn (.t 2) 86 [] [],.v (.t 6) T3,.v (.t 7) T3,.v (.t 8) T3,.row (.t 0) true T138 138] [(.exit 4,[.v (.t 1) T3,.fn (.t 2) 86 [] [],.v (.t 6) T3,.v (.t 7) T3,.row (.t 0) true T138 138])] (by kernel_rfl)
def qjt(n:Nat):LK Tryz.prog false:=mkL tab (qbL n) [qjs n] Tryz.f126 [true,true,true,true,false,false] 1 n [.v (.t 1) T3,.fn (.t 2) 86 [] [],.v (.t 6) T3,.row (.t 0) true T138 138] [(.exit 2,[.row (.t 0) true T138 138])] (by kernel_rfl)
def qjV(n:Nat):Cw Tryz.prog:=mkW tab (qbL n) [qjr n,qjt n] Tryz.func126 [.v (.t 1) T3,.fn (.t 2) 86 [] [],.row (.t 0) true T138 138] 3 [[.row (.t 0) true T138 138]] (by kernel_rfl)
noncomputable def qjh(n:Nat):CL Tryz.prog:=⟨[qrR n],[qjV n],0,nof⟩
def qju(n:Nat):Cw Tryz.prog:=mkW tab (qjh n) [] Tryz.func85 [.fn (.t 1) 86 [] [],.row (.t 0) true T138 138] 2 [[.row (.t 0) true T138 138]] (by kernel_rfl)
noncomputable def qrq(n:Nat):CL Tryz.prog:=⟨[],[],0,nof⟩
def qlT(n:Nat):Ct Tryz.prog:=mkC tab (qrq n) [] Tryz.func88 [.d T138] [T4] (by kernel_rfl)
noncomputable def qcY(n:Nat):CL Tryz.prog:=⟨[qlT n],[],0,nof⟩
def qgC(n:Nat):LK Tryz.prog false:=mkL tab (qcY n) [] Tryz.f127 [true,false,true,false,false] 0 n [.fn (.t 1) 88 [] [],.v (.t 7) T3,.v (.t 8) T3,.row (.t 0) true T138 138] [(.exit 0,[.row (.t 0) true T138 138]),(.ret,[.v (.t 4) T3,.row (.t 0) true T138 138])] (by kernel_rfl)
def qgK(n:Nat):Cw Tryz.prog:=mkW tab (qcY n) [qgC n] Tryz.func127 [.fn (.t 1) 88 [] [],.row (.t 0) true T138 138] 2 [[.v (.t 0) T3,.row (.t 1) true T138 138]] (by kernel_rfl)
noncomputable def qds(n:Nat):CL Tryz.prog:=⟨[qlT n],[qgK n],0,nof⟩
def qg9(n:Nat):LK Tryz.prog false:=mkL tab (qds n) [] Tryz.f87 [true,true,true,false,true,false,false] 0 n [.fn (.t 1) 88 [] [],.v (.t 5) T3,.v (.t 6) T3,.row (.t 0) true T138 138] [(.exit 0,[.v (.t 5) T3,.row (.t 0) true T138 138])] (by kernel_rfl)
def qhg(n:Nat):Cw Tryz.prog:=mkW tab (qds n) [qg9 n] Tryz.func87 [.fn (.t 1) 88 [] [],.row (.t 0) true T138 138] 2 [[.row (.t 1) true T138 138,.sub (.t 0) 0]] (by kernel_rfl)
noncomputable def qil(n:Nat):CL Tryz.prog:=⟨[tz_C n],[qju n,qhg n],1,nof⟩
def qsm(n:Nat):LK Tryz.prog false:=mkL tab (qil n) [] Tryz.f43 [true,true,false,false,false] 0 n [.v (.t 0) T72,.v (.t 1) T70,.row (.t 4) false T80 80,.row (.t 5) false T138 138] [(.exit 0,[.row (.t 4) false T80 80,.row (.t 5) false T138 138])] (by kernel_rfl)
def qsn(n:Nat):LK Tryz.prog false:=mkL tab (qil n) [] Tryz.f43 [true,true,true,false,false,false] 1 n [.row (.t 4) false T80 80,.row (.t 5) false T138 138] [(.exit 2,[.row (.t 4) false T80 80])] (by kernel_rfl)
def qsQ(n:Nat):Ct Tryz.prog:=mkC tab (qil n) [qsm n,qsn n] Tryz.func43 [.d T72,.d T70] [T27] (by kernel_rfl)
noncomputable def qtQ(n:Nat):CL Tryz.prog:=⟨[qBl n,quR n,qwd n,qsQ n],[],0,nof⟩
def qzv(n:Nat):LK Tryz.prog false:=mkL tab (qtQ n) [] Tryz.f16 [true,true,true,true,false,true,false,false] 0 n [.v (.t 4) T72,.v (.t 20) T75,.v (.t 21) T3,.v (.t 22) T3,.row (.t 6) false T80 80] [(.exit 0,[.row (.t 6) false T80 80])] (by kernel_rfl)
def qz8(n:Nat):Ct Tryz.prog:=mkC tab (qtQ n) [qzv n] Tryz.func16 [.d T22] [T27,T24] (by kernel_rfl)
noncomputable def qzw(n:Nat):CL Tryz.prog:=⟨[qz8 n],[],0,nof⟩
def quS(n:Nat):Ct Tryz.prog:=mkC tab (qzw n) [] Tryz.func14 [.d T22] [T3,T24] (by kernel_rfl)
end
noncomputable section
noncomputable def qkR(n:Nat):CL Tryz.prog:=⟨[qoZ n],[],0,nof⟩
def qo8(n:Nat):LK Tryz.prog false:=mkL tab (qkR n) [] Tryz.f130 [true,false,true,false,false,true,false,false,true,true,false,false] 1 n [.v (.t 1) T35,.v (.t 9) T3,.v (.t 11) T3,.obj (.t 3) false 34 2,.v (.c 0 0) T34,.obj (.t 5) false 91 5,.v (.c 1 0) T91,.obj (.t 10) false 95 3,.v (.c 2 0) T95] [(.exit 2,[.v (.t 1) T35,.v (.t 9) T3,.obj (.t 3) false 34 2,.v (.c 0 0) T34,.obj (.t 5) false 91 5,.v (.c 1 0) T91]),(.ret,[.v (.t 6) T3,.v (.t 7) T3,.v (.t 8) T3])] (by kernel_rfl)
def qo9(n:Nat):LK Tryz.prog false:=mkL tab (qkR n) [qo8 n] Tryz.f130 [true,false,true,false,false] 0 n [.v (.t 1) T35,.v (.t 9) T3,.obj (.t 3) false 34 2,.v (.c 0 0) T34,.obj (.t 5) false 91 5,.v (.c 1 0) T91] [(.exit 0,[]),(.ret,[.v (.t 6) T3,.v (.t 7) T3,.v (.t 8) T3])] (by kernel_rfl)
def qpU(n:Nat):Ct Tryz.prog:=mkC tab (qkR n) [qo9 n] Tryz.func130 [.d T34,.d T35,.d T91] [T3,T3,T3] (by kernel_rfl)
noncomputable def qnW(n:Nat):CL Tryz.prog:=⟨[qpU n],[],0,nof⟩
def qnX(n:Nat):LK Tryz.prog false:=mkL tab (qnW n) [] Tryz.f93 [true,false,true,false,false] 0 n [.v (.t 1) T35,.v (.t 6) T3,.obj (.t 2) false 34 2,.v (.c 0 0) T34,.row (.t 4) false T91 91,.row (.t 5) false T91 91] [(.exit 0,[.row (.t 4) false T91 91,.row (.t 5) false T91 91])] (by kernel_rfl)
def qon(n:Nat):Ct Tryz.prog:=mkC tab (qnW n) [qnX n] Tryz.func93 [.d T34,.d T35] [T35,T35] (by kernel_rfl)
end
noncomputable section
noncomputable def qz9(n:Nat):CL Tryz.prog:=⟨[qea n,qqU n,qrP n],[],0,nof⟩
def qJj(n:Nat):Ct Tryz.prog:=mkC tab (qz9 n) [] Tryz.func25 [.d T3,.d T22] [T22,T24] (by kernel_rfl)
noncomputable def qth(n:Nat):CL Tryz.prog:=⟨[],[],0,nof⟩
def qoo(n:Nat):Ct Tryz.prog:=mkC tab (qth n) [] Tryz.func97 [.d T3,.d T3] [T3] (by kernel_rfl)
noncomputable def qpa(n:Nat):CL Tryz.prog:=⟨[],[],0,nof⟩
def qpb(n:Nat):LK Tryz.prog false:=mkL tab (qpa n) [] Tryz.f95 [true,false,true,false,false] 0 n [.v (.t 1) T3,.v (.t 5) T3,.obj (.t 2) false 41 13,.v (.c 0 0) T41,.obj (.t 4) false 112 3,.v (.c 1 0) T112] [(.exit 0,[.v (.t 1) T3,.obj (.t 4) false 112 3,.v (.c 0 0) T112]),(.ret,[.obj (.t 4) false 112 3,.v (.c 0 0) T112])] (by kernel_rfl)
def qpV(n:Nat):Ct Tryz.prog:=mkC tab (qpa n) [qpb n] Tryz.func95 [.d T41,.d T3] [T112] (by kernel_rfl)
noncomputable def qne(n:Nat):CL Tryz.prog:=⟨[],[],0,nof⟩
def qnf(n:Nat):LK Tryz.prog false:=mkL tab (qne n) [] Tryz.f96 [true,true,false,true,false,false] 0 n [.v (.t 1) T3,.v (.t 2) T3,.v (.t 7) T3,.obj (.t 3) false 41 13,.v (.c 0 0) T41] [(.exit 0,[.v (.t 1) T3,.v (.t 2) T3,.obj (.t 3) false 41 13,.v (.c 0 0) T41]),(.ret,[.v (.t 6) T4])] (by kernel_rfl)
def qnY(n:Nat):Ct Tryz.prog:=mkC tab (qne n) [qnf n] Tryz.func96 [.d T41,.d T3,.d T3] [T4] (by kernel_rfl)
noncomputable def qvE(n:Nat):CL Tryz.prog:=⟨[qpV n,qnY n,qoo n],[],0,nof⟩
def qme(n:Nat):Ct Tryz.prog:=mkC tab (qvE n) [] Tryz.func54 [.d T41,.d T91,.d T95] [T3,T3] (by kernel_rfl)
noncomputable def qsR(n:Nat):CL Tryz.prog:=⟨[qon n,qpC n],[],0,nof⟩
def qjv(n:Nat):Ct Tryz.prog:=mkC tab (qsR n) [] Tryz.func53 [.d T41] [T35] (by kernel_rfl)
noncomputable def qkS(n:Nat):CL Tryz.prog:=⟨[qii n,qjv n,qme n],[],0,nof⟩
def qpc(n:Nat):LK Tryz.prog false:=mkL tab (qkS n) [] Tryz.f30 [true,true,true,false,true,false,false,true,false,false,true,false,true,false,false] 1 n [.v (.t 4) T3,.v (.t 5) T3,.v (.t 8) T35,.v (.t 9) T3,.v (.t 10) T3,.obj (.t 2) false 41 13,.v (.c 0 0) T41] [(.exit 2,[.v (.t 4) T3,.v (.t 5) T3])] (by kernel_rfl)
def qpd(n:Nat):LK Tryz.prog false:=mkL tab (qkS n) [qpc n] Tryz.f30 [true,true,true,false,true,false,false] 0 n [.v (.t 1) T3,.v (.t 4) T3,.v (.t 5) T3,.v (.t 8) T35,.v (.t 9) T3,.obj (.t 2) false 41 13,.v (.c 0 0) T41] [(.exit 0,[]),(.ret,[.v (.t 4) T3,.v (.t 5) T3,.v (.t 6) T24])] (by kernel_rfl)
def qpW(n:Nat):Ct Tryz.prog:=mkC tab (qkS n) [qpd n] Tryz.func30 [.d T41,.d T3] [T3,T3,T24] (by kernel_rfl)
noncomputable def qhS(n:Nat):CL Tryz.prog:=⟨[],[],0,nof⟩
def qpe(n:Nat):LK Tryz.prog false:=mkL tab (qhS n) [] Tryz.f57 [true,true,true,false,true,false,false] 0 n [.v (.t 0) T3,.v (.t 1) T22,.v (.t 6) T3,.v (.t 7) T3,.row (.t 5) false T3 3] [(.exit 0,[.v (.t 0) T3,.v (.t 1) T22,.v (.t 6) T3,.row (.t 5) false T3 3])] (by kernel_rfl)
def qpf(n:Nat):LK Tryz.prog false:=mkL tab (qhS n) [] Tryz.f57 [true,true,true,true,true,false,false,false,true,false,false,true,false,true,false,false] 2 n [.v (.t 0) T3,.v (.t 1) T22,.v (.t 6) T3,.v (.t 9) T3,.v (.t 10) T3,.row (.t 5) false T3 3,.row (.t 8) false T4 4] [(.exit 4,[.v (.t 0) T3,.v (.t 1) T22,.v (.t 6) T3,.v (.t 9) T3,.row (.t 5) false T3 3,.row (.t 8) false T4 4])] (by kernel_rfl)
def qpg(n:Nat):LK Tryz.prog false:=mkL tab (qhS n) [qpf n] Tryz.f57 [true,true,true,true,true,false,false,false] 1 n [.v (.t 0) T3,.v (.t 1) T22,.v (.t 6) T3,.row (.t 5) false T3 3,.row (.t 8) false T4 4] [(.exit 2,[.row (.t 5) false T3 3])] (by kernel_rfl)
def qpX(n:Nat):Ct Tryz.prog:=mkC tab (qhS n) [qpe n,qpg n] Tryz.func57 [.d T3,.d T22] [T22] (by kernel_rfl)
noncomputable def qdt(n:Nat):CL Tryz.prog:=⟨[qii n,qjv n,qme n,qpX n],[],0,nof⟩
def qng(n:Nat):LK Tryz.prog false:=mkL tab (qdt n) [] Tryz.f32 [true,true,true,true,false,true,false,false,true,false,false,true,false,false,true,false,false,true,true,true,false,true,false,false] 2 n [.v (.t 6) T35,.v (.t 7) T3,.v (.t 8) T3,.v (.t 10) T3,.v (.t 11) T3,.v (.t 12) T22,.v (.t 13) T3,.obj (.t 1) false 41 13,.v (.c 0 0) T41,.row (.t 5) false T3 3] [(.exit 4,[.v (.t 6) T35,.v (.t 7) T3,.v (.t 8) T3,.v (.t 10) T3,.v (.t 11) T3,.obj (.t 1) false 41 13,.v (.c 0 0) T41,.row (.t 5) false T3 3])] (by kernel_rfl)
def qnh(n:Nat):LK Tryz.prog false:=mkL tab (qdt n) [qng n] Tryz.f32 [true,true,true,true,false,true,false,false,true,false,false,true,false,false] 1 n [.v (.t 6) T35,.v (.t 7) T3,.v (.t 8) T3,.obj (.t 1) false 41 13,.v (.c 0 0) T41,.row (.t 5) false T3 3] [(.exit 2,[.v (.t 6) T35,.v (.t 7) T3,.obj (.t 1) false 41 13,.v (.c 0 0) T41,.row (.t 5) false T3 3])] (by kernel_rfl)
def qni(n:Nat):LK Tryz.prog false:=mkL tab (qdt n) [qnh n] Tryz.f32 [true,true,true,true,false,true,false,false] 0 n [.v (.t 6) T35,.v (.t 7) T3,.obj (.t 1) false 41 13,.v (.c 0 0) T41,.row (.t 5) false T3 3] [(.exit 0,[.obj (.t 1) false 41 13,.v (.c 0 0) T41,.row (.t 5) false T3 3])] (by kernel_rfl)
def qnj(n:Nat):LK Tryz.prog false:=mkL tab (qdt n) [] Tryz.f32 [true,true,true,true,true,false,true,false,false,true,false,false,true,true,false,true,false,false] 4 n [.v (.t 14) T3,.v (.t 16) T22,.v (.t 17) T3,.obj (.t 1) false 41 13,.v (.c 0 0) T41,.obj (.t 15) false 108 3,.v (.c 1 0) T108,.row (.t 5) false T3 3] [(.exit 8,[.v (.t 14) T3,.obj (.t 1) false 41 13,.v (.c 0 0) T41,.obj (.t 15) false 108 3,.v (.c 1 0) T108,.row (.t 5) false T3 3])] (by kernel_rfl)
def qnk(n:Nat):LK Tryz.prog false:=mkL tab (qdt n) [qnj n] Tryz.f32 [true,true,true,true,true,false,true,false,false] 3 n [.v (.t 14) T3,.obj (.t 1) false 41 13,.v (.c 0 0) T41,.row (.t 5) false T3 3] [(.exit 6,[.row (.t 5) false T3 3])] (by kernel_rfl)
def qnZ(n:Nat):Ct Tryz.prog:=mkC tab (qdt n) [qni n,qnk n] Tryz.func32 [.d T41] [T22,T24] (by kernel_rfl)
noncomputable def qnl(n:Nat):CL Tryz.prog:=⟨[],[],0,nof⟩
def qnm(n:Nat):LK Tryz.prog false:=mkL tab (qnl n) [] Tryz.f27 [true,true,false,true,false,false] 0 n [.v (.t 0) T22,.v (.t 1) T22,.v (.t 5) T3] [(.exit 0,[]),(.ret,[.v (.t 4) T4])] (by kernel_rfl)
def qjw(n:Nat):Ct Tryz.prog:=mkC tab (qnl n) [qnm n] Tryz.func27 [.d T22,.d T22] [T4] (by kernel_rfl)
noncomputable def quT(n:Nat):CL Tryz.prog:=⟨[quS n,qv2 n,qjw n,qoD n,qom n],[],0,nof⟩
def qpY(n:Nat):Ct Tryz.prog:=mkC tab (quT n) [] Tryz.func13 [] [T4] (by kernel_rfl)
noncomputable def qrr(n:Nat):CL Tryz.prog:=⟨[qpY n,qrp n,qqv n,qjw n,qv1 n,qpW n,qoD n,qnZ n,qrO n,qii n],[],0,nof⟩
def qd5(n:Nat):Ct Tryz.prog:=mkC tab (qrr n) [] Tryz.func9 [.d T41,.d T3] [T4] (by kernel_rfl)
end
end Go.Proofs.YtlmicgmhallkkaaGreatDoor
