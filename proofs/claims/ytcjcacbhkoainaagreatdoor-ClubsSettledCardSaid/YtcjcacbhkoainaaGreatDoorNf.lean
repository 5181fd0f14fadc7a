/- Texts DnN, DnO, DnQ, Dnz, DnV, DnW, DnX, DnY, DnL, DnZ in one. -/
import Derived.Test.YtcjcacbhkoainaaGreatDoorNe
import Derived.Test.YtcjcacbhkoainaaGreatDoorNd
import Derived.Test.YtcjcacbhkoainaaGreatDoorKa
import Derived.Test.YtcjcacbhkoainaaGreatDoorTy
/- Printed: what functions of the program compute. -/
set_option linter.constructorNameAsVariable false
set_option linter.unusedSimpArgs false
set_option linter.unusedVariables false
set_option linter.unusedSectionVars false
namespace Go.Proofs.YtcjcacbhkoainaaGreatDoor
open Go Go.Proofs Go.RowKit
set_option maxRecDepth 20000
noncomputable section
noncomputable def qrf(n:Nat):CL Tryz.prog:=⟨[],[],0,nof⟩
def qcZ(n:Nat):Ct Tryz.prog:=mkC tab (qrf n) [] Tryz.func44 [.d T3,.d T3,.d T3] [T4] (by kernel_rfl)
noncomputable def qqo(n:Nat):CL Tryz.prog:=⟨[qcZ n],[],0,nof⟩
def qeN(n:Nat):Ct Tryz.prog:=mkC tab (qqo n) [] Tryz.func87 [.d T3] [T4] (by kernel_rfl)
noncomputable def qtz(n:Nat):CL Tryz.prog:=⟨[qcZ n],[],0,nof⟩
def qhI(n:Nat):Ct Tryz.prog:=mkC tab (qtz n) [] Tryz.func82 [.d T3] [T4] (by kernel_rfl)
noncomputable def qiu(n:Nat):CL Tryz.prog:=⟨[qeN n],[],0,nof⟩
def qdf(n:Nat):Cw Tryz.prog:=mkW tab (qiu n) [] Tryz.func109 [.v (.t 0) T3,.obj (.t 1) true 99 1,.fnc (.c 0 0) 87 []] 2 [[.v (.t 0) T4,.obj (.t 1) true 99 1,.fnc (.c 0 0) 87 []]] (by kernel_rfl)
noncomputable def qb2(n:Nat):CL Tryz.prog:=⟨[qeN n],[qdf n],0,nof⟩
def qee(n:Nat):LK Tryz.prog false:=mkL tab (qb2 n) [] Tryz.f150 [true,false,true,false,false] 0 n [.v (.t 0) T22,.v (.t 7) T3,.v (.t 8) T3,.fnc (.t 1) 109 [.box true 99 1],.fnc (.c 0 0) 87 []] [(.exit 0,[.fnc (.t 1) 109 [.box true 99 1],.fnc (.c 0 0) 87 []]),(.ret,[.v (.t 4) T3,.fnc (.t 1) 109 [.box true 99 1],.fnc (.c 0 0) 87 []])] (by kernel_rfl)
def qes(n:Nat):Cw Tryz.prog:=mkW tab (qb2 n) [qee n] Tryz.func150 [.v (.t 0) T22,.fnc (.t 1) 109 [.box true 99 1],.fnc (.c 0 0) 87 []] 2 [[.v (.t 0) T3,.obj (.t 1) true 99 1,.fnc (.c 0 0) 87 []]] (by kernel_rfl)
noncomputable def qdV(n:Nat):CL Tryz.prog:=⟨[qeN n],[qdf n,qes n],0,nof⟩
def qd1(n:Nat):Cw Tryz.prog:=mkW tab (qdV n) [] Tryz.func108 [.v (.t 0) T22,.fnc (.t 1) 109 [.box true 99 1],.fnc (.c 0 0) 87 []] 2 [[.v (.t 0) T4,.obj (.t 1) true 99 1,.fnc (.c 0 0) 87 []]] (by kernel_rfl)
noncomputable def qiN(n:Nat):CL Tryz.prog:=⟨[qeN n],[qd1 n],0,nof⟩
def qi0(n:Nat):Cw Tryz.prog:=mkW tab (qiN n) [] Tryz.func81 [.v (.t 0) T22,.fn (.t 1) 87 [] []] 2 [[.v (.t 0) T4]] (by kernel_rfl)
noncomputable def qjh(n:Nat):CL Tryz.prog:=⟨[qhI n],[],0,nof⟩
def qgq(n:Nat):Cw Tryz.prog:=mkW tab (qjh n) [] Tryz.func109 [.v (.t 0) T3,.obj (.t 1) true 99 1,.fnc (.c 0 0) 82 []] 2 [[.v (.t 0) T4,.obj (.t 1) true 99 1,.fnc (.c 0 0) 82 []]] (by kernel_rfl)
noncomputable def qco(n:Nat):CL Tryz.prog:=⟨[qhI n],[qgq n],0,nof⟩
def qeV(n:Nat):LK Tryz.prog false:=mkL tab (qco n) [] Tryz.f150 [true,false,true,false,false] 0 n [.v (.t 0) T22,.v (.t 7) T3,.v (.t 8) T3,.fnc (.t 1) 109 [.box true 99 1],.fnc (.c 0 0) 82 []] [(.exit 0,[.fnc (.t 1) 109 [.box true 99 1],.fnc (.c 0 0) 82 []]),(.ret,[.v (.t 4) T3,.fnc (.t 1) 109 [.box true 99 1],.fnc (.c 0 0) 82 []])] (by kernel_rfl)
def qe4(n:Nat):Cw Tryz.prog:=mkW tab (qco n) [qeV n] Tryz.func150 [.v (.t 0) T22,.fnc (.t 1) 109 [.box true 99 1],.fnc (.c 0 0) 82 []] 2 [[.v (.t 0) T3,.obj (.t 1) true 99 1,.fnc (.c 0 0) 82 []]] (by kernel_rfl)
noncomputable def qet(n:Nat):CL Tryz.prog:=⟨[qhI n],[qdf n,qgq n,qe4 n],0,nof⟩
def qeF(n:Nat):Cw Tryz.prog:=mkW tab (qet n) [] Tryz.func108 [.v (.t 0) T22,.fnc (.t 1) 109 [.box true 99 1],.fnc (.c 0 0) 82 []] 2 [[.v (.t 0) T4,.obj (.t 1) true 99 1,.fnc (.c 0 0) 82 []]] (by kernel_rfl)
noncomputable def qjQ(n:Nat):CL Tryz.prog:=⟨[qhI n],[qeF n],0,nof⟩
def qgT(n:Nat):Cw Tryz.prog:=mkW tab (qjQ n) [] Tryz.func81 [.v (.t 0) T22,.fn (.t 1) 82 [] []] 2 [[.v (.t 0) T4]] (by kernel_rfl)
noncomputable def qmn(n:Nat):CL Tryz.prog:=⟨[],[qi0 n],0,nof⟩
def qrg(n:Nat):LK Tryz.prog false:=mkL tab (qmn n) [] Tryz.f77 [true,true,false,true,false,false] 0 n [.v (.t 0) T22,.v (.t 3) T3,.v (.t 6) T22,.v (.t 7) T3,.v (.t 8) T3] [(.exit 0,[.v (.t 0) T22,.v (.t 3) T3])] (by kernel_rfl)
def qrI(n:Nat):Ct Tryz.prog:=mkC tab (qmn n) [qrg n] Tryz.func77 [.d T22] [T4] (by kernel_rfl)
noncomputable def qpD(n:Nat):CL Tryz.prog:=⟨[qcZ n],[],0,nof⟩
def qbT(n:Nat):Cw Tryz.prog:=mkW tab (qpD n) [] Tryz.func75 [.v (.t 0) T3,.obj (.t 1) true 41 13,.v (.c 0 0) T41] 2 [[.v (.t 0) T4,.obj (.t 1) true 41 13,.v (.c 0 0) T41]] (by kernel_rfl)
noncomputable def qpE(n:Nat):CL Tryz.prog:=⟨[qrI n],[],0,nof⟩
def qhp(n:Nat):Cw Tryz.prog:=mkW tab (qpE n) [] Tryz.func76 [.v (.t 0) T22,.obj (.t 1) true 41 13,.v (.c 0 0) T41] 2 [[.v (.t 0) T4,.obj (.t 1) true 41 13,.v (.c 0 0) T41]] (by kernel_rfl)
noncomputable def qpF(n:Nat):CL Tryz.prog:=⟨[qcZ n],[],0,nof⟩
def qhq(n:Nat):Cw Tryz.prog:=mkW tab (qpF n) [] Tryz.func78 [.v (.t 0) T95,.obj (.t 1) true 136 1,.mpi (.c 0 0) true T3 T3,.obj (.t 2) true 41 13,.v (.c 2 0) T41] 3 [[.v (.t 0) T4,.obj (.t 1) true 136 1,.mpi (.c 0 0) true T3 T3,.obj (.t 3) true 41 13,.v (.c 2 0) T41]] (by kernel_rfl)
noncomputable def qji(n:Nat):CL Tryz.prog:=⟨[],[qbT n],0,nof⟩
def qcz(n:Nat):Cw Tryz.prog:=mkW tab (qji n) [] Tryz.func79 [.v (.t 0) T43,.obj (.t 1) true 99 1,.fnc (.c 0 0) 75 [.box true 41 13],.v (.c 1 0) T41] 2 [[.v (.t 0) T4,.obj (.t 1) true 99 1,.fnc (.c 0 0) 75 [.box true 41 13],.v (.c 1 0) T41]] (by kernel_rfl)
noncomputable def qjj(n:Nat):CL Tryz.prog:=⟨[qcZ n],[qbT n],0,nof⟩
def qcA(n:Nat):Cw Tryz.prog:=mkW tab (qjj n) [] Tryz.func80 [.v (.t 0) T90,.obj (.t 1) true 99 1,.obj (.t 2) true 41 13,.v (.c 1 0) T41,.fnc (.c 0 0) 75 [.al 1]] 3 [[.v (.t 0) T4,.obj (.t 1) true 99 1,.obj (.t 2) true 41 13,.v (.c 1 0) T41,.fnc (.c 0 0) 75 [.al 1]]] (by kernel_rfl)
noncomputable def qiv(n:Nat):CL Tryz.prog:=⟨[],[qhp n],0,nof⟩
def qe5(n:Nat):Cw Tryz.prog:=mkW tab (qiv n) [] Tryz.func111 [.v (.t 0) T22,.obj (.t 1) true 31 1,.fnc (.c 0 0) 76 [.box true 41 13],.v (.c 1 0) T41] 2 [[.v (.t 0) T4,.obj (.t 1) true 31 1,.fnc (.c 0 0) 76 [.box true 41 13],.v (.c 1 0) T41]] (by kernel_rfl)
noncomputable def qb3(n:Nat):CL Tryz.prog:=⟨[],[qhp n,qe5 n],0,nof⟩
def qef(n:Nat):LK Tryz.prog false:=mkL tab (qb3 n) [] Tryz.f151 [true,false,true,false,false] 0 n [.v (.t 0) T36,.v (.t 7) T3,.v (.t 8) T3,.fnc (.t 1) 111 [.box true 31 1],.fnc (.c 0 0) 76 [.box true 41 13],.v (.c 1 0) T41] [(.exit 0,[.fnc (.t 1) 111 [.box true 31 1],.fnc (.c 0 0) 76 [.box true 41 13],.v (.c 1 0) T41]),(.ret,[.v (.t 4) T3,.fnc (.t 1) 111 [.box true 31 1],.fnc (.c 0 0) 76 [.box true 41 13],.v (.c 1 0) T41])] (by kernel_rfl)
def qeu(n:Nat):Cw Tryz.prog:=mkW tab (qb3 n) [qef n] Tryz.func151 [.v (.t 0) T36,.fnc (.t 1) 111 [.box true 31 1],.fnc (.c 0 0) 76 [.box true 41 13],.v (.c 1 0) T41] 2 [[.v (.t 0) T3,.obj (.t 1) true 31 1,.fnc (.c 0 0) 76 [.box true 41 13],.v (.c 1 0) T41]] (by kernel_rfl)
noncomputable def qdW(n:Nat):CL Tryz.prog:=⟨[],[qhp n,qe5 n,qeu n],0,nof⟩
def qd2(n:Nat):Cw Tryz.prog:=mkW tab (qdW n) [] Tryz.func110 [.v (.t 0) T36,.fnc (.t 1) 111 [.box true 31 1],.fnc (.c 0 0) 76 [.box true 41 13],.v (.c 1 0) T41] 2 [[.v (.t 0) T4,.obj (.t 1) true 31 1,.fnc (.c 0 0) 76 [.box true 41 13],.v (.c 1 0) T41]] (by kernel_rfl)
noncomputable def qiO(n:Nat):CL Tryz.prog:=⟨[],[qhp n,qd2 n],0,nof⟩
def qfL(n:Nat):Cw Tryz.prog:=mkW tab (qiO n) [] Tryz.func83 [.v (.t 0) T36,.fnc (.t 1) 76 [.box true 41 13],.v (.c 0 0) T41] 2 [[.v (.t 0) T4,.obj (.t 1) true 41 13,.v (.c 0 0) T41]] (by kernel_rfl)
noncomputable def qhr(n:Nat):CL Tryz.prog:=⟨[],[qhq n],0,nof⟩
def qdZ(n:Nat):Cw Tryz.prog:=mkW tab (qhr n) [] Tryz.func113 [.v (.t 0) T95,.obj (.t 1) true 137 1,.fnc (.c 0 0) 78 [.box true 136 1,.box true 41 13],.mpi (.c 1 0) true T3 T3,.v (.c 2 0) T41] 2 [[.v (.t 0) T4,.obj (.t 1) true 137 1,.fnc (.c 0 0) 78 [.box true 136 1,.box true 41 13],.mpi (.c 1 0) true T3 T3,.v (.c 2 0) T41]] (by kernel_rfl)
noncomputable def qbB(n:Nat):CL Tryz.prog:=⟨[],[qhq n,qdZ n],0,nof⟩
def qdr(n:Nat):LK Tryz.prog false:=mkL tab (qbB n) [] Tryz.f152 [true,false,true,false,false] 0 n [.v (.t 0) T37,.v (.t 7) T3,.v (.t 8) T3,.fnc (.t 1) 113 [.box true 137 1],.fnc (.c 0 0) 78 [.box true 136 1,.box true 41 13],.mpi (.c 1 0) true T3 T3,.v (.c 2 0) T41] [(.exit 0,[.fnc (.t 1) 113 [.box true 137 1],.fnc (.c 0 0) 78 [.box true 136 1,.box true 41 13],.mpi (.c 1 0) true T3 T3,.v (.c 2 0) T41]),(.ret,[.v (.t 4) T3,.fnc (.t 1) 113 [.box true 137 1],.fnc (.c 0 0) 78 [.box true 136 1,.box true 41 13],.mpi (.c 1 0) true T3 T3,.v (.c 2 0) T41])] (by kernel_rfl)
def qdu(n:Nat):Cw Tryz.prog:=mkW tab (qbB n) [qdr n] Tryz.func152 [.v (.t 0) T37,.fnc (.t 1) 113 [.box true 137 1],.fnc (.c 0 0) 78 [.box true 136 1,.box true 41 13],.mpi (.c 1 0) true T3 T3,.v (.c 2 0) T41] 2 [[.v (.t 0) T3,.obj (.t 1) true 137 1,.fnc (.c 0 0) 78 [.box true 136 1,.box true 41 13],.mpi (.c 1 0) true T3 T3,.v (.c 2 0) T41]] (by kernel_rfl)
noncomputable def qc1(n:Nat):CL Tryz.prog:=⟨[],[qhq n,qdZ n,qdu n],0,nof⟩
def qdg(n:Nat):Cw Tryz.prog:=mkW tab (qc1 n) [] Tryz.func112 [.v (.t 0) T37,.fnc (.t 1) 113 [.box true 137 1],.fnc (.c 0 0) 78 [.box true 136 1,.box true 41 13],.mpi (.c 1 0) true T3 T3,.v (.c 2 0) T41] 2 [[.v (.t 0) T4,.obj (.t 1) true 137 1,.fnc (.c 0 0) 78 [.box true 136 1,.box true 41 13],.mpi (.c 1 0) true T3 T3,.v (.c 2 0) T41]] (by kernel_rfl)
noncomputable def qhK(n:Nat):CL Tryz.prog:=⟨[],[qhq n,qdg n],0,nof⟩
def qem(n:Nat):Cw Tryz.prog:=mkW tab (qhK n) [] Tryz.func84 [.v (.t 0) T37,.fnc (.t 1) 78 [.box true 136 1,.box true 41 13],.mpi (.c 0 0) true T3 T3,.v (.c 1 0) T41] 2 [[.v (.t 0) T4,.obj (.t 1) true 136 1,.obj (.t 2) true 41 13,.mpi (.c 0 0) true T3 T3,.v (.c 1 0) T41]] (by kernel_rfl)
noncomputable def qeG(n:Nat):CL Tryz.prog:=⟨[],[qbT n,qcz n],0,nof⟩
def qcj(n:Nat):Cw Tryz.prog:=mkW tab (qeG n) [] Tryz.func114 [.v (.t 0) T43,.obj (.t 1) true 138 1,.fnc (.c 0 0) 79 [.box true 99 1],.fnc (.c 1 0) 75 [.box true 41 13],.v (.c 2 0) T41] 2 [[.v (.t 0) T4,.obj (.t 1) true 138 1,.fnc (.c 0 0) 79 [.box true 99 1],.fnc (.c 1 0) 75 [.box true 41 13],.v (.c 2 0) T41]] (by kernel_rfl)
noncomputable def q9(n:Nat):CL Tryz.prog:=⟨[],[qbT n,qcz n,qcj n],0,nof⟩
def qcg(n:Nat):LK Tryz.prog false:=mkL tab (q9 n) [] Tryz.f117 [true,false,true,false,false] 0 n [.v (.t 0) T38,.v (.t 7) T3,.v (.t 8) T3,.fnc (.t 1) 114 [.box true 138 1],.fnc (.c 0 0) 79 [.box true 99 1],.fnc (.c 1 0) 75 [.box true 41 13],.v (.c 2 0) T41] [(.exit 0,[.fnc (.t 1) 114 [.box true 138 1],.fnc (.c 0 0) 79 [.box true 99 1],.fnc (.c 1 0) 75 [.box true 41 13],.v (.c 2 0) T41]),(.ret,[.v (.t 4) T3,.fnc (.t 1) 114 [.box true 138 1],.fnc (.c 0 0) 79 [.box true 99 1],.fnc (.c 1 0) 75 [.box true 41 13],.v (.c 2 0) T41])] (by kernel_rfl)
def qba(n:Nat):Cw Tryz.prog:=mkW tab (q9 n) [qcg n] Tryz.func117 [.v (.t 0) T38,.fnc (.t 1) 114 [.box true 138 1],.fnc (.c 0 0) 79 [.box true 99 1],.fnc (.c 1 0) 75 [.box true 41 13],.v (.c 2 0) T41] 2 [[.v (.t 0) T3,.obj (.t 1) true 138 1,.fnc (.c 0 0) 79 [.box true 99 1],.fnc (.c 1 0) 75 [.box true 41 13],.v (.c 2 0) T41]] (by kernel_rfl)
noncomputable def qb6(n:Nat):CL Tryz.prog:=⟨[],[qbT n,qcz n,qcj n,qba n],0,nof⟩
def qX(n:Nat):Cw Tryz.prog:=mkW tab (qb6 n) [] Tryz.func89 [.v (.t 0) T38,.fnc (.t 1) 114 [.box true 138 1],.fnc (.c 0 0) 79 [.box true 99 1],.fnc (.c 1 0) 75 [.box true 41 13],.v (.c 2 0) T41] 2 [[.v (.t 0) T4,.obj (.t 1) true 138 1,.fnc (.c 0 0) 79 [.box true 99 1],.fnc (.c 1 0) 75 [.box true 41 13],.v (.c 2 0) T41]] (by kernel_rfl)
noncomputable def qeW(n:Nat):CL Tryz.prog:=⟨[],[qbT n,qcz n,qX n],0,nof⟩
def qcu(n:Nat):Cw Tryz.prog:=mkW tab (qeW n) [] Tryz.func85 [.v (.t 0) T38,.fnc (.t 1) 79 [.box true 99 1],.fnc (.c 0 0) 75 [.box true 41 13],.v (.c 1 0) T41] 2 [[.v (.t 0) T4,.obj (.t 1) true 99 1,.fnc (.c 0 0) 75 [.box true 41 13],.v (.c 1 0) T41]] (by kernel_rfl)
noncomputable def qeJ(n:Nat):CL Tryz.prog:=⟨[],[qbT n,qcA n],0,nof⟩
def qcp(n:Nat):Cw Tryz.prog:=mkW tab (qeJ n) [] Tryz.func116 [.v (.t 0) T90,.obj (.t 1) true 139 1,.fnc (.c 0 0) 80 [.box true 99 1,.box true 41 13],.fnc (.c 1 0) 75 [.al 2],.v (.c 2 0) T41] 2 [[.v (.t 0) T4,.obj (.t 1) true 139 1,.fnc (.c 0 0) 80 [.box true 99 1,.box true 41 13],.fnc (.c 1 0) 75 [.al 2],.v (.c 2 0) T41]] (by kernel_rfl)
noncomputable def qbd(n:Nat):CL Tryz.prog:=⟨[],[qbT n,qcA n,qcp n],0,nof⟩
def qcq(n:Nat):LK Tryz.prog false:=mkL tab (qbd n) [] Tryz.f153 [true,false,true,false,false] 0 n [.v (.t 0) T39,.v (.t 7) T3,.v (.t 8) T3,.fnc (.t 1) 116 [.box true 139 1],.fnc (.c 0 0) 80 [.box true 99 1,.box true 41 13],.fnc (.c 1 0) 75 [.al 2],.v (.c 2 0) T41] [(.exit 0,[.fnc (.t 1) 116 [.box true 139 1],.fnc (.c 0 0) 80 [.box true 99 1,.box true 41 13],.fnc (.c 1 0) 75 [.al 2],.v (.c 2 0) T41]),(.ret,[.v (.t 4) T3,.fnc (.t 1) 116 [.box true 139 1],.fnc (.c 0 0) 80 [.box true 99 1,.box true 41 13],.fnc (.c 1 0) 75 [.al 2],.v (.c 2 0) T41])] (by kernel_rfl)
def qcs(n:Nat):Cw Tryz.prog:=mkW tab (qbd n) [qcq n] Tryz.func153 [.v (.t 0) T39,.fnc (.t 1) 116 [.box true 139 1],.fnc (.c 0 0) 80 [.box true 99 1,.box true 41 13],.fnc (.c 1 0) 75 [.al 2],.v (.c 2 0) T41] 2 [[.v (.t 0) T3,.obj (.t 1) true 139 1,.fnc (.c 0 0) 80 [.box true 99 1,.box true 41 13],.fnc (.c 1 0) 75 [.al 2],.v (.c 2 0) T41]] (by kernel_rfl)
noncomputable def qcb(n:Nat):CL Tryz.prog:=⟨[],[qbT n,qcA n,qcp n,qcs n],0,nof⟩
def qch(n:Nat):Cw Tryz.prog:=mkW tab (qcb n) [] Tryz.func115 [.v (.t 0) T39,.fnc (.t 1) 116 [.box true 139 1],.fnc (.c 0 0) 80 [.box true 99 1,.box true 41 13],.fnc (.c 1 0) 75 [.al 2],.v (.c 2 0) T41] 2 [[.v (.t 0) T4,.obj (.t 1) true 139 1,.fnc (.c 0 0) 80 [.box true 99 1,.box true 41 13],.fnc (.c 1 0) 75 [.al 2],.v (.c 2 0) T41]] (by kernel_rfl)
noncomputable def qe6(n:Nat):CL Tryz.prog:=⟨[],[qbT n,qcA n,qch n],0,nof⟩
def qcB(n:Nat):Cw Tryz.prog:=mkW tab (qe6 n) [] Tryz.func86 [.v (.t 0) T39,.fnc (.t 1) 80 [.box true 99 1,.box true 41 13],.fnc (.c 0 0) 75 [.al 1],.v (.c 1 0) T41] 2 [[.v (.t 0) T4,.obj (.t 1) true 99 1,.obj (.t 2) true 41 13,.fnc (.c 0 0) 75 [.al 1],.v (.c 1 0) T41]] (by kernel_rfl)
noncomputable def qrJ(n:Nat):CL Tryz.prog:=⟨[qcZ n,qlO n,qhI n,qeN n],[qgT n,qfL n,qem n,qcu n,qcB n],0,nof⟩
def qn9(n:Nat):Ct Tryz.prog:=mkC tab (qrJ n) [] Tryz.func56 [.d T41] [T24] (by kernel_rfl)
noncomputable def qqp(n:Nat):CL Tryz.prog:=⟨[],[],0,nof⟩
def qrh(n:Nat):Cw Tryz.prog:=mkW tab (qqp n) [] Tryz.func57 [.v (.t 0) T77,.obj (.t 1) true 3 1,.v (.c 0 0) T3] 2 [[.v (.t 0) T4,.obj (.t 1) true 3 1,.v (.c 0 0) T3]] (by kernel_rfl)
noncomputable def qds(n:Nat):CL Tryz.prog:=⟨[],[qrh n],0,nof⟩
def qgx(n:Nat):LK Tryz.prog false:=mkL tab (qds n) [] Tryz.f33 [true,false,true,false,false] 0 n [.v (.t 0) T35,.v (.t 7) T3,.v (.t 8) T3,.fnc (.t 1) 57 [.box true 3 1],.v (.c 0 0) T3] [(.exit 0,[.fnc (.t 1) 57 [.box true 3 1],.v (.c 0 0) T3]),(.ret,[.v (.t 4) T3,.fnc (.t 1) 57 [.box true 3 1],.v (.c 0 0) T3])] (by kernel_rfl)
def qgI(n:Nat):Cw Tryz.prog:=mkW tab (qds n) [qgx n] Tryz.func33 [.v (.t 0) T35,.fnc (.t 1) 57 [.box true 3 1],.v (.c 0 0) T3] 2 [[.v (.t 0) T3,.obj (.t 1) true 3 1,.v (.c 0 0) T3]] (by kernel_rfl)
noncomputable def qm9(n:Nat):CL Tryz.prog:=⟨[qmm n,qn9 n],[qbK n,qbj n,qcn n,qgI n],0,nof⟩
def qna(n:Nat):LK Tryz.prog false:=mkL tab (qm9 n) [] Tryz.f32 [true,true,true,true,false,true,false,false] 0 n [.v (.t 27) T22,.v (.t 28) T3,.v (.t 29) T3,.obj (.t 1) false 41 13,.v (.c 0 0) T41,.obj (.t 5) false 79 14,.v (.c 1 0) T41,.row (.c 1 13) false T77 77] [(.exit 0,[.obj (.t 5) false 79 14,.v (.c 0 0) T41,.row (.c 0 13) false T77 77])] (by kernel_rfl)
def qkX(n:Nat):Cw Tryz.prog:=mkW tab (qm9 n) [qna n] Tryz.func32 [.v (.t 0) T41] 1 [[.v (.t 1) T24,.obj (.t 0) false 79 14,.v (.c 0 0) T41,.row (.c 0 13) false T77 77],[.nilp (.t 0),.v (.t 1) T24]] (by kernel_rfl)
noncomputable def qiP(n:Nat):CL Tryz.prog:=⟨[],[],0,nof⟩
def qmA(n:Nat):LK Tryz.prog false:=mkL tab (qiP n) [] Tryz.f58 [true,false,true,false,false] 0 n [.v (.t 1) T3,.v (.t 11) T37,.v (.t 12) T3,.v (.t 13) T3,.obj (.t 0) true 79 14,.v (.c 0 0) T79,.obj (.t 4) false 95 3,.v (.c 1 0) T95] [(.exit 0,[.v (.t 1) T3,.obj (.t 0) true 79 14,.v (.c 0 0) T79,.obj (.t 4) false 95 3,.v (.c 1 0) T95]),(.ret,[.obj (.t 0) true 79 14,.v (.c 0 0) T79,.obj (.t 4) false 95 3,.v (.c 1 0) T95])] (by kernel_rfl)
def qnb(n:Nat):Cw Tryz.prog:=mkW tab (qiP n) [qmA n] Tryz.func58 [.v (.t 1) T3,.obj (.t 0) true 79 14,.v (.c 0 0) T79] 2 [[.v (.t 0) T95,.obj (.t 1) true 79 14,.v (.c 0 0) T79]] (by kernel_rfl)
noncomputable def qnc(n:Nat):CL Tryz.prog:=⟨[],[],0,nof⟩
def qjx(n:Nat):Cw Tryz.prog:=mkW tab (qnc n) [] Tryz.func88 [.v (.t 1) T3,.v (.t 2) T3,.obj (.t 0) true 79 14,.v (.c 0 0) T79] 3 [[.v (.t 0) T4,.obj (.t 1) true 79 14,.v (.c 0 0) T79]] (by kernel_rfl)
noncomputable def qkF(n:Nat):CL Tryz.prog:=⟨[],[qjx n],0,nof⟩
def qeX(n:Nat):Cw Tryz.prog:=mkW tab (qkF n) [] Tryz.func90 [.v (.t 0) T43,.obj (.t 1) true 3 1,.v (.c 0 0) T3,.obj (.t 2) true 71 1,.obj (.c 1 0) true 79 14,.v (.c 2 0) T79,.obj (.t 3) true 3 1,.v (.c 3 0) T3] 4 [[.v (.t 0) T4,.obj (.t 1) true 3 1,.v (.c 0 0) T3,.obj (.t 2) true 71 1,.obj (.c 1 0) true 79 14,.v (.c 2 0) T79,.obj (.t 4) true 3 1,.v (.c 3 0) T3]] (by kernel_rfl)
noncomputable def qck(n:Nat):CL Tryz.prog:=⟨[],[qeX n],0,nof⟩
def qeK(n:Nat):LK Tryz.prog false:=mkL tab (qck n) [] Tryz.f117 [true,false,true,false,false] 0 n [.v (.t 0) T38,.v (.t 7) T3,.v (.t 8) T3,.fnc (.t 1) 90 [.box true 3 1,.box true 71 1,.box true 3 1],.v (.c 0 0) T3,.obj (.c 1 0) true 79 14,.v (.c 3 0) T79,.v (.c 2 0) T3] [(.exit 0,[.fnc (.t 1) 90 [.box true 3 1,.box true 71 1,.box true 3 1],.v (.c 0 0) T3,.obj (.c 1 0) true 79 14,.v (.c 3 0) T79,.v (.c 2 0) T3]),(.ret,[.v (.t 4) T3,.fnc (.t 1) 90 [.box true 3 1,.box true 71 1,.box true 3 1],.v (.c 0 0) T3,.obj (.c 1 0) true 79 14,.v (.c 3 0) T79,.v (.c 2 0) T3])] (by kernel_rfl)
def qeY(n:Nat):Cw Tryz.prog:=mkW tab (qck n) [qeK n] Tryz.func117 [.v (.t 0) T38,.fnc (.t 1) 90 [.box true 3 1,.box true 71 1,.box true 3 1],.v (.c 0 0) T3,.obj (.c 1 0) true 79 14,.v (.c 3 0) T79,.v (.c 2 0) T3] 2 [[.v (.t 0) T3,.obj (.t 1) true 3 1,.obj (.t 2) true 71 1,.obj (.t 3) true 3 1,.v (.c 0 0) T3,.obj (.c 1 0) true 79 14,.v (.c 3 0) T79,.v (.c 2 0) T3]] (by kernel_rfl)
noncomputable def qeg(n:Nat):CL Tryz.prog:=⟨[],[qeX n,qba n,qeY n],0,nof⟩
def qev(n:Nat):Cw Tryz.prog:=mkW tab (qeg n) [] Tryz.func89 [.v (.t 0) T38,.fnc (.t 1) 90 [.box true 3 1,.box true 71 1,.box true 3 1],.v (.c 0 0) T3,.obj (.c 1 0) true 79 14,.v (.c 3 0) T79,.v (.c 2 0) T3] 2 [[.v (.t 0) T4,.obj (.t 1) true 3 1,.obj (.t 2) true 71 1,.obj (.t 3) true 3 1,.v (.c 0 0) T3,.obj (.c 1 0) true 79 14,.v (.c 3 0) T79,.v (.c 2 0) T3]] (by kernel_rfl)
noncomputable def qlo(n:Nat):CL Tryz.prog:=⟨[],[qjx n,qX n,qev n],0,nof⟩
def qlQ(n:Nat):Cw Tryz.prog:=mkW tab (qlo n) [] Tryz.func59 [.v (.t 1) T3,.v (.t 2) T3,.obj (.t 0) true 79 14,.v (.c 0 0) T79] 3 [[.v (.t 0) T4,.obj (.t 1) true 79 14,.v (.c 0 0) T79]] (by kernel_rfl)
noncomputable def qt1(n:Nat):CL Tryz.prog:=⟨[],[],0,nof⟩
def qri(n:Nat):Ct Tryz.prog:=mkC tab (qt1 n) [] Tryz.func60 [.d T3,.d T3] [T3] (by kernel_rfl)
noncomputable def qnd(n:Nat):CL Tryz.prog:=⟨[qri n],[qnb n,qlQ n],0,nof⟩
def qnX(n:Nat):Cw Tryz.prog:=mkW tab (qnd n) [] Tryz.func35 [.v (.t 1) T77,.v (.t 2) T84,.obj (.t 0) true 79 14,.v (.c 0 0) T79] 3 [[.v (.t 0) T3,.v (.t 1) T3,.obj (.t 2) true 79 14,.v (.c 0 0) T79]] (by kernel_rfl)
end
noncomputable section
noncomputable def qpG(n:Nat):CL Tryz.prog:=⟨[qdS n],[],0,nof⟩
def qi1(n:Nat):Cw Tryz.prog:=mkW tab (qpG n) [] Tryz.func68 [.v (.t 0) T3,.v (.t 1) T3,.obj (.t 2) true 3 1,.v (.c 0 0) T3,.obj (.t 3) true 22 1,.v (.c 1 0) T22] 4 [[.v (.t 0) T3,.obj (.t 1) true 3 1,.v (.c 0 0) T3,.obj (.t 2) true 22 1,.v (.c 1 0) T22]] (by kernel_rfl)
noncomputable def qbG(n:Nat):CL Tryz.prog:=⟨[],[qi1 n],0,nof⟩
def qfv(n:Nat):LK Tryz.prog false:=mkL tab (qbG n) [] Tryz.f142 [true,false,false,true,false,false,true,false,false] 1 n [.v (.t 1) T3,.v (.t 2) T3,.v (.t 8) T3,.v (.t 9) T3,.row (.t 0) true T3 3,.fnc (.t 3) 68 [.box true 3 1,.box true 22 1],.v (.c 1 0) T3,.v (.c 2 0) T22] [(.exit 2,[.v (.t 1) T3,.v (.t 2) T3,.v (.t 8) T3,.row (.t 0) true T3 3,.fnc (.t 3) 68 [.box true 3 1,.box true 22 1],.v (.c 1 0) T3,.v (.c 2 0) T22])] (by kernel_rfl)
def qfw(n:Nat):LK Tryz.prog false:=mkL tab (qbG n) [qfv n] Tryz.f142 [true,false,false] 0 n [.v (.t 1) T3,.v (.t 2) T3,.v (.t 8) T3,.row (.t 0) true T3 3,.fnc (.t 3) 68 [.box true 3 1,.box true 22 1],.v (.c 1 0) T3,.v (.c 2 0) T22] [(.exit 0,[.row (.t 0) true T3 3,.fnc (.t 3) 68 [.box true 3 1,.box true 22 1],.v (.c 1 0) T3,.v (.c 2 0) T22])] (by kernel_rfl)
def qfM(n:Nat):Cw Tryz.prog:=mkW tab (qbG n) [qfw n] Tryz.func142 [.v (.t 1) T3,.v (.t 2) T3,.row (.t 0) true T3 3,.fnc (.t 3) 68 [.box true 3 1,.box true 22 1],.v (.c 1 0) T3,.v (.c 2 0) T22] 4 [[.row (.t 0) true T3 3,.obj (.t 1) true 3 1,.obj (.t 2) true 22 1,.v (.c 1 0) T3,.v (.c 2 0) T22]] (by kernel_rfl)
noncomputable def qbt(n:Nat):CL Tryz.prog:=⟨[],[qi1 n,qfM n],0,nof⟩
def qgU(n:Nat):LK Tryz.prog false:=mkL tab (qbt n) [] Tryz.f102 [true,true,false,false,false] 0 n [.v (.t 1) T3,.v (.t 6) T3,.v (.t 7) T3,.v (.t 8) T3,.row (.t 0) true T3 3,.fnc (.t 2) 68 [.box true 3 1,.box true 22 1],.v (.c 1 0) T3,.v (.c 2 0) T22] [(.exit 0,[.v (.t 1) T3,.v (.t 6) T3,.v (.t 7) T3,.row (.t 0) true T3 3,.fnc (.t 2) 68 [.box true 3 1,.box true 22 1],.v (.c 1 0) T3,.v (.c 2 0) T22])] (by kernel_rfl)
def qgV(n:Nat):LK Tryz.prog false:=mkL tab (qbt n) [] Tryz.f102 [true,true,true,true,false,false,true,false,true,false,false,false] 2 n [.v (.t 1) T3,.v (.t 6) T3,.v (.t 7) T3,.v (.t 8) T3,.row (.t 0) true T3 3,.fnc (.t 2) 68 [.box true 3 1,.box true 22 1],.v (.c 1 0) T3,.v (.c 2 0) T22] [(.exit 4,[.v (.t 1) T3,.v (.t 6) T3,.v (.t 7) T3,.row (.t 0) true T3 3,.fnc (.t 2) 68 [.box true 3 1,.box true 22 1],.v (.c 1 0) T3,.v (.c 2 0) T22])] (by kernel_rfl)
def qgW(n:Nat):LK Tryz.prog false:=mkL tab (qbt n) [qgV n] Tryz.f102 [true,true,true,true,false,false] 1 n [.v (.t 1) T3,.v (.t 6) T3,.row (.t 0) true T3 3,.fnc (.t 2) 68 [.box true 3 1,.box true 22 1],.v (.c 1 0) T3,.v (.c 2 0) T22] [(.exit 2,[.row (.t 0) true T3 3,.fnc (.t 2) 68 [.box true 3 1,.box true 22 1],.v (.c 1 0) T3,.v (.c 2 0) T22])] (by kernel_rfl)
def qg6(n:Nat):Cw Tryz.prog:=mkW tab (qbt n) [qgU n,qgW n] Tryz.func102 [.v (.t 1) T3,.row (.t 0) true T3 3,.fnc (.t 2) 68 [.box true 3 1,.box true 22 1],.v (.c 1 0) T3,.v (.c 2 0) T22] 3 [[.row (.t 0) true T3 3,.obj (.t 1) true 3 1,.obj (.t 2) true 22 1,.v (.c 1 0) T3,.v (.c 2 0) T22]] (by kernel_rfl)
noncomputable def qgJ(n:Nat):CL Tryz.prog:=⟨[],[qi1 n,qg6 n],0,nof⟩
def qgX(n:Nat):Cw Tryz.prog:=mkW tab (qgJ n) [] Tryz.func67 [.row (.t 0) true T3 3,.fnc (.t 1) 68 [.box true 3 1,.box true 22 1],.v (.c 1 0) T3,.v (.c 2 0) T22] 2 [[.row (.t 0) true T3 3,.obj (.t 1) true 3 1,.obj (.t 2) true 22 1,.v (.c 1 0) T3,.v (.c 2 0) T22]] (by kernel_rfl)
noncomputable def qkj(n:Nat):CL Tryz.prog:=⟨[],[qgX n],0,nof⟩
def qrK(n:Nat):LK Tryz.prog false:=mkL tab (qkj n) [] Tryz.f42 [true,true,true,true,false,true,false,false] 0 n [.v (.t 7) T3,.v (.t 19) T22,.v (.t 20) T3,.v (.t 21) T3,.obj (.t 2) false 3 1,.v (.c 0 0) T3,.obj (.t 3) false 22 1,.v (.c 1 0) T22,.row (.t 5) false T3 3,.row (.t 6) false T3 3] [(.exit 0,[.v (.t 7) T3,.obj (.t 2) false 3 1,.v (.c 0 0) T3,.obj (.t 3) false 22 1,.v (.c 1 0) T22,.row (.t 5) false T3 3,.row (.t 6) false T3 3])] (by kernel_rfl)
def qrL(n:Nat):LK Tryz.prog false:=mkL tab (qkj n) [] Tryz.f42 [true,true,true,true,true,true,false,true,false,false] 1 n [.v (.t 50) T3,.v (.t 51) T3,.row (.t 5) false T3 3,.row (.t 6) false T3 3,.sub (.t 49) 1] [(.exit 2,[.row (.t 5) false T3 3])] (by kernel_rfl)
def qsz(n:Nat):Ct Tryz.prog:=mkC tab (qkj n) [qrK n,qrL n] Tryz.func42 [.d T3,.d T22] [T22] (by kernel_rfl)
noncomputable def qjy(n:Nat):CL Tryz.prog:=⟨[qsz n],[],0,nof⟩
def qnY(n:Nat):LK Tryz.prog false:=mkL tab (qjy n) [] Tryz.f41 [true,false,false] 0 n [.v (.t 2) T3,.v (.t 19) T22,.v (.t 20) T3,.v (.t 21) T3,.obj (.t 3) true 71 1,.obj (.c 0 0) true 79 14,.v (.c 1 0) T79,.obj (.t 4) true 22 1,.row (.c 2 0) true T3 3] [(.exit 0,[.obj (.t 3) true 71 1,.obj (.c 0 0) true 79 14,.v (.c 1 0) T79,.obj (.t 4) true 22 1,.row (.c 2 0) true T3 3])] (by kernel_rfl)
def qoj(n:Nat):Cw Tryz.prog:=mkW tab (qjy n) [qnY n] Tryz.func41 [.v (.t 0) T3,.v (.t 1) T3,.v (.t 2) T3,.obj (.t 3) true 71 1,.obj (.c 0 0) true 79 14,.v (.c 1 0) T79,.obj (.t 4) true 22 1,.row (.c 2 0) true T3 3] 5 [[.obj (.t 0) true 71 1,.obj (.c 0 0) true 79 14,.v (.c 1 0) T79,.obj (.t 2) true 22 1,.row (.c 2 0) true T3 3]] (by kernel_rfl)
noncomputable def qgL(n:Nat):CL Tryz.prog:=⟨[],[qkX n,qnX n,qoj n],2,nof⟩
def qpH(n:Nat):LK Tryz.prog false:=mkL tab (qgL n) [] Tryz.f19 [true,true,true,true,true,true,false,true,false,false,true,true,false,false,true,true,false,false] 1 n [.v (.t 6) T3,.v (.t 7) T3,.v (.t 48) T35,.v (.t 49) T3,.v (.t 50) T3,.v (.t 55) T75,.v (.t 56) T3,.v (.t 57) T3,.obj (.t 4) false 71 1,.obj (.c 0 0) false 79 14,.v (.c 1 0) T79,.obj (.t 8) false 22 1,.row (.c 2 0) false T3 3,.obj (.t 11) false 77 5,.v (.c 4 0) T77,.fnc (.t 9) 41 [.al 0,.al 2]] [(.exit 2,[.v (.t 6) T3,.v (.t 7) T3,.v (.t 48) T35,.v (.t 49) T3,.v (.t 50) T3,.obj (.t 4) false 71 1,.obj (.c 0 0) false 79 14,.v (.c 1 0) T79,.obj (.t 8) false 22 1,.row (.c 2 0) false T3 3,.fnc (.t 9) 41 [.al 0,.al 2]])] (by kernel_rfl)
def qk7(n:Nat):LK Tryz.prog false:=mkL tab (qgL n) [qpH n] Tryz.f19 [true,true,true,true,true,true,false,true,false,false] 0 n [.v (.t 6) T3,.v (.t 7) T3,.v (.t 48) T35,.v (.t 49) T3,.v (.t 50) T3,.obj (.t 4) false 71 1,.obj (.c 0 0) false 79 14,.v (.c 1 0) T79,.obj (.t 8) false 22 1,.row (.c 2 0) false T3 3,.fnc (.t 9) 41 [.al 0,.al 2]] [(.exit 0,[.obj (.t 4) false 71 1,.obj (.c 0 0) false 79 14,.v (.c 1 0) T79,.obj (.t 8) false 22 1,.row (.c 2 0) false T3 3,.fnc (.t 9) 41 [.al 0,.al 2]])] (by kernel_rfl)
def qk8(n:Nat):LK Tryz.prog false:=mkL tab (qgL n) [] Tryz.f19 [true,true,true,true,true,true,true,false,true,false,false] 2 n [.v (.t 95) T39,.v (.t 96) T3,.v (.t 97) T3,.obj (.t 4) false 71 1,.obj (.c 0 0) false 79 14,.v (.c 1 0) T79,.obj (.t 8) false 22 1,.row (.c 2 0) false T3 3,.fnc (.t 9) 41 [.al 0,.al 2]] [(.exit 4,[.obj (.t 8) false 22 1,.row (.c 0 0) false T3 3])] (by kernel_rfl)
def qlR(n:Nat):Ct Tryz.prog:=mkC tab (qgL n) [qk7 n,qk8 n] Tryz.func19 [.d T41] [T22,T24] (by kernel_rfl)
end
noncomputable section
noncomputable def qmB(n:Nat):CL Tryz.prog:=⟨[],[],0,nof⟩
def qgY(n:Nat):Ct Tryz.prog:=mkC tab (qmB n) [] Tryz.func28 [.d T3,.d T3,.d T3] [T4] (by kernel_rfl)
noncomputable def qlW(n:Nat):CL Tryz.prog:=⟨[qmw n],[],0,nof⟩
def qiQ(n:Nat):Ct Tryz.prog:=mkC tab (qlW n) [] Tryz.func20 [] [T41] (by kernel_rfl)
end
end Go.Proofs.YtcjcacbhkoainaaGreatDoor
/- The contract of math/bits.TrailingZeros, by hand: it reads a table that is a package variable. -/
namespace Go.Proofs.YtcjcacbhkoainaaGreatDoor
open Go Go.Proofs Go.RowKit Go.Shelf
set_option maxHeartbeats 800000
attribute [local go_sem] Oper.semAt_some
def tz(s:Nat):Nat:=if s % 2=1 then 0 else if s % 4=2 then 1 else if s % 8=4 then 2 else if s % 16=8 then 3 else if s % 32=16 then 4 else if s % 64=32 then 5 else if s % 128=64 then 6 else 7
theorem qsH(s:Nat):tz s<8:=by unfold tz;repeat' split<;>try omega
def jj(k:Nat):Nat:=2 ^ k*285870213051353865 % 18446744073709551616/288230376151711744
theorem qzy(k:Nat)(hk:k<8):jj k<64:=by revert k;decide +kernel
theorem qy3(s:Nat):s<256→0<s→bits BinOp.and IntKind.u64 (s:Int) (IntKind.u64.wrap (-(s:Int)))=((2 ^ tz s:Nat):Int):=by
 revert s;decide +kernel
theorem qwe(k:Nat):k<8→IntKind.u64.wrap (((2 ^ k:Nat):Int)*285870213051353865)/288230376151711744=((jj k:Nat):Int):=by
 revert k;decide +kernel
theorem qxA(s:Nat)(hs:s<256)(h0:0<s):IntKind.u64.wrap (bits BinOp.and IntKind.u64 (s:Int) (IntKind.u64.wrap (-(s:Int)))*285870213051353865)/288230376151711744=((jj (tz s):Nat):Int):=by
 rw[qy3 s hs h0];exact qwe _ (qsH s)
def qu9(w:World):Prop:=1<w.heap.size∧∀k,k<8→w.cell? ⟨1,jj k,none⟩=some (.int .u8 (k:Int))
theorem qwf(s k idx:Nat)(w:World)(hs0:((s:Int)==0)=false)
  (hE:IntKind.u64.wrap (bits BinOp.and IntKind.u64 (s:Int) (IntKind.u64.wrap (-(s:Int)))*285870213051353865)/288230376151711744=(idx:Int))
  (hj:idx<64) (hk:k<8) (hc:w.cell? ⟨1,idx,none⟩=some (.int .u8 (k:Int))) :
  Calls Tryz.prog 71 #[.int .u64 s] w fun e w'=>e = .returned (.int .i64 k)∧w=w':=by
 go_enter Tryz.func71,Tryz.ntmps71
 go_wp2_with fail
 go_ret
 exact ⟨rfl,rfl⟩
theorem qxB(s:Nat)(w:World)(hs:s<256)(h0:0<s)(ht:qu9 w):Calls Tryz.prog 71 #[.int .u64 s] w fun e w'=>e = .returned (.int .i64 (tz s))∧w=w' :=
 qwf s (tz s) (jj (tz s)) w (by simp;omega) (qxA s hs h0) (qzy (tz s) (qsH s)) (qsH s) (ht.2 (tz s) (qsH s))
theorem qyv(s:Nat)(w:World)(hs:s<256)(h0:0<s)(ht:qu9 w):Calls Tryz.prog 50 #[.int .u64 s] w fun e w'=>e = .returned (.int .i64 (tz s))∧w=w':=by
 have hs0:(0:Int)≤s:=by omega
 go_enter Tryz.func50,Tryz.ntmps50
 go_wp2_with (go_at_call 71;refine (qxB _ _ hs h0 ht).mono ?_;rintro e w1 ⟨rfl,rfl⟩)
 go_ret
 exact ⟨rfl,rfl⟩
theorem qwg:∀k,k<8→(1,(jj k,Value.int .u8 (k:Int)))∈gTab
 | 0,_=>List.mem_of_getElem? (i:=0) rfl
 | 1,_=>List.mem_of_getElem? (i:=1) rfl
 | 2,_=>List.mem_of_getElem? (i:=2) rfl
 | 3,_=>List.mem_of_getElem? (i:=3) rfl
 | 4,_=>List.mem_of_getElem? (i:=4) rfl
 | 5,_=>List.mem_of_getElem? (i:=5) rfl
 | 6,_=>List.mem_of_getElem? (i:=6) rfl
 | 7,_=>List.mem_of_getElem? (i:=7) rfl
 | k+8,h=>absurd h (by omega)
theorem qxC{w:World}(h:Gl w):qu9 w:=⟨h.lt (qwg 0 (by decide)),fun k hk=>h _ (qwg k hk)⟩
def tzB(x:Int):Bool:=decide (0<x)&&decide (x<256)
noncomputable def tz_M(n:Nat)(x:qdz [.d (.i .u64)]):Option (qI [.i .i64]):=cond (tzB x.1) (some ((tz (Int.toNat x.1):Int),())) none
noncomputable def tz_C(n:Nat):Ct Tryz.prog:=⟨50,[.d (.i .u64)],.ts [.i .i64],tz_M n,fun x y h=>by
 obtain ⟨z,u⟩:=x
 change Int at z
 unfold tz_M at h
 cases hc:tzB z with
 | false=>simp only[hc,cond_false] at h;cases h
 | true =>
  simp only[hc,cond_true] at h
  injection h with h
  subst h
  unfold tzB at hc
  simp only[Bool.and_eq_true,decide_eq_true_eq] at hc
  obtain ⟨s,hs⟩:=Int.eq_ofNat_of_zero_le (show 0≤z by omega)
  subst hs
  refine ⟨enters_of (c:=qi Tryz.f50) Tryz.func50 (by kernel_rfl) (by kernel_rfl),fun w S vs hG hn henc=>?_⟩
  have h0:=henc 0 (.val (.int .u64 s)) rfl
  obtain ⟨v,rfl⟩:∃v,vs = #[v]:=by
   obtain ⟨l⟩:=vs
   match l,hn with
   | [v],_=>exact ⟨v,rfl⟩
  have h1:v = .int .u64 s:=h0.val_eq
  subst h1
  refine (qyv s w (by omega) (by omega) (qxC hG)).mono fun e w' ⟨e1,e2⟩=>?_
  subst e2
  exact ⟨Ext.refl _,_,e1,.val _⟩⟩
noncomputable section
noncomputable def qfN(n:Nat):CL Tryz.prog:=⟨[],[],0,fun _=>false⟩
noncomputable def qia(n:Nat):Nat→St→PT (DEx×St):=fun _ _=>.fail
theorem qlX(n:Nat):qO (qfN n).c (qi Tryz.f45) 0=[]:=by kernel_rfl
theorem qlY:Tryz.f45.body=some (qi Tryz.f45):=by kernel_rfl
abbrev qfO:List It:=[.raw (.t 0)]
abbrev qfc:List (List It):=[[.row (.t 0) false T3 3]]
noncomputable def qd5(n:Nat)(x:qd qfO):Option (qV qfc):=runW tab (qfN n) (qia n) (qi Tryz.f45) qfO 1 8 [.tmp 2] qfc x
noncomputable def qlZ(n:Nat):Cw Tryz.prog:=⟨45,1,qfO,1,qfc,qd5 n,fun _ _ h=>qh7 (B:=tab) (cs:=qfN n) (lo:=qia n) (rs:=[.tmp 2]) Tryz.func45 (by kernel_rfl) qlY (by kernel_rfl) (by decide) (qfW (qlX n) qdn) h⟩
noncomputable def qhs(n:Nat):CL Tryz.prog:=⟨[],[],0,fun _=>false⟩
noncomputable def qjz(n:Nat):Nat→St→PT (DEx×St):=fun _ _=>.fail
theorem qok(n:Nat):qO (qhs n).c (qi Tryz.f45) 0=[]:=by kernel_rfl
theorem qol:Tryz.f45.body=some (qi Tryz.f45):=by kernel_rfl
abbrev qht:List It:=[.v (.t 0) T22]
abbrev qeO:List (List It):=[[.row (.t 0) false T3 3]]
noncomputable def qjU(n:Nat)(x:qd qht):Option (qV qeO):=runW tab (qhs n) (qjz n) (qi Tryz.f45) qht 1 8 [.tmp 2] qeO x
noncomputable def qom(n:Nat):Cw Tryz.prog:=⟨45,1,qht,1,qeO,qjU n,fun _ _ h=>qh7 (B:=tab) (cs:=qhs n) (lo:=qjz n) (rs:=[.tmp 2]) Tryz.func45 (by kernel_rfl) qol (by kernel_rfl) (by decide) (qfW (qok n) qdn) h⟩
end
theorem qon(n:Nat)(c:Nat):qd5 n (.slice none 0 c,())=some ([],()):=by kernel_rfl
theorem qoo(n:Nat)(a:Addr)(c:Nat):qd5 n (.slice (some a) 0 c,())=some ([],()):=by kernel_rfl
noncomputable def qjV(n:Nat):Cw Tryz.prog:=qut 45 T3 qeO (qd5 n) (qjU n) ([],()) (fun v y m0 h=>(qlZ n).okk (x:=(v,())) (y:=y) h m0 (qnT m0)) (fun l y m0 h=>(qom n).okk (x:=(l,())) (y:=y) h m0 (qnT m0)) (fun A c=>by cases A with | none=>exact qon n c | some a=>exact qoo n a c)
noncomputable def qop(n:Nat):=(qjV n).M
noncomputable section
noncomputable def qiz(n:Nat):CL Tryz.prog:=⟨[],[],0,nof⟩
def ql0(n:Nat):LK Tryz.prog false:=mkL tab (qiz n) [] Tryz.f58 [true,false,true,false,false] 0 n [.v (.t 1) T3,.v (.t 11) T37,.v (.t 12) T3,.v (.t 13) T3,.obj (.t 0) true 79 14,.v (.c 0 0) T34,.v (.c 0 2) T35,.v (.c 0 3) T3,.row (.c 0 4) true T3 3,.v (.c 0 5) T36,.v (.c 0 6) T37,.v (.c 0 7) T38,.v (.c 0 8) T39,.v (.c 0 9) T3,.v (.c 0 10) T3,.v (.c 0 11) T3,.v (.c 0 12) T3,.v (.c 0 13) T35,.obj (.t 4) false 95 3,.v (.c 2 0) T95] [(.exit 0,[.v (.t 1) T3,.obj (.t 0) true 79 14,.v (.c 0 0) T34,.v (.c 0 2) T35,.v (.c 0 3) T3,.row (.c 0 4) true T3 3,.v (.c 0 5) T36,.v (.c 0 6) T37,.v (.c 0 7) T38,.v (.c 0 8) T39,.v (.c 0 9) T3,.v (.c 0 10) T3,.v (.c 0 11) T3,.v (.c 0 12) T3,.v (.c 0 13) T35,.obj (.t 4) false 95 3,.v (.c 2 0) T95]),(.ret,[.obj (.t 0) true 79 14,.v (.c 0 0) T34,.v (.c 0 2) T35,.v (.c 0 3) T3,.row (.c 0 4) true T3 3,.v (.c 0 5) T36,.v (.c 0 6) T37,.v (.c 0 7) T38,.v (.c 0 8) T39,.v (.c 0 9) T3,.v (.c 0 10) T3,.v (.c 0 11) T3,.v (.c 0 12) T3,.v (.c 0 13) T35,.obj (.t 4) false 95 3,.v (.c 2 0) T95])] (by kernel_rfl)
def qmC(n:Nat):Cw Tryz.prog:=mkW tab (qiz n) [ql0 n] Tryz.func58 [.v (.t 1) T3,.obj (.t 0) true 79 14,.v (.c 0 0) T34,.v (.c 0 2) T35,.v (.c 0 3) T3,.row (.c 0 4) true T3 3,.v (.c 0 5) T36,.v (.c 0 6) T37,.v (.c 0 7) T38,.v (.c 0 8) T39,.v (.c 0 9) T3,.v (.c 0 10) T3,.v (.c 0 11) T3,.v (.c 0 12) T3,.v (.c 0 13) T35] 2 [[.v (.t 0) T95,.obj (.t 1) true 79 14,.v (.c 0 0) T34,.v (.c 0 2) T35,.v (.c 0 3) T3,.row (.c 0 4) true T3 3,.v (.c 0 5) T36,.v (.c 0 6) T37,.v (.c 0 7) T38,.v (.c 0 8) T39,.v (.c 0 9) T3,.v (.c 0 10) T3,.v (.c 0 11) T3,.v (.c 0 12) T3,.v (.c 0 13) T35]] (by kernel_rfl)
noncomputable def qmD(n:Nat):CL Tryz.prog:=⟨[],[],0,nof⟩
def qja(n:Nat):Cw Tryz.prog:=mkW tab (qmD n) [] Tryz.func88 [.v (.t 1) T3,.v (.t 2) T3,.obj (.t 0) true 79 14,.v (.c 0 0) T34,.v (.c 0 2) T35,.v (.c 0 3) T3,.row (.c 0 4) true T3 3,.v (.c 0 5) T36,.v (.c 0 6) T37,.v (.c 0 7) T38,.v (.c 0 8) T39,.v (.c 0 9) T3,.v (.c 0 10) T3,.v (.c 0 11) T3,.v (.c 0 12) T3,.v (.c 0 13) T35] 3 [[.v (.t 0) T4,.obj (.t 1) true 79 14,.v (.c 0 0) T34,.v (.c 0 2) T35,.v (.c 0 3) T3,.row (.c 0 4) true T3 3,.v (.c 0 5) T36,.v (.c 0 6) T37,.v (.c 0 7) T38,.v (.c 0 8) T39,.v (.c 0 9) T3,.v (.c 0 10) T3,.v (.c 0 11) T3,.v (.c 0 12) T3,.v (.c 0 13) T35]] (by kernel_rfl)
noncomputable def qkk(n:Nat):CL Tryz.prog:=⟨[],[qja n],0,nof⟩
def qg9(n:Nat):Cw Tryz.prog:=mkW tab (qkk n) [] Tryz.func90 [.v (.t 0) T43,.obj (.t 1) true 3 1,.v (.c 0 0) T3,.obj (.t 2) true 71 1,.obj (.c 1 0) true 79 14,.v (.c 2 0) T34,.v (.c 2 2) T35,.v (.c 2 3) T3,.row (.c 2 4) true T3 3,.v (.c 2 5) T36,.v (.c 2 6) T37,.v (.c 2 7) T38,.v (.c 2 8) T39,.v (.c 2 9) T3,.v (.c 2 10) T3,.v (.c 2 11) T3,.v (.c 2 12) T3,.v (.c 2 13) T35,.obj (.t 3) true 3 1,.v (.c 4 0) T3] 4 [[.v (.t 0) T4,.obj (.t 1) true 3 1,.v (.c 0 0) T3,.obj (.t 2) true 71 1,.obj (.c 1 0) true 79 14,.v (.c 2 0) T34,.v (.c 2 2) T35,.v (.c 2 3) T3,.row (.c 2 4) true T3 3,.v (.c 2 5) T36,.v (.c 2 6) T37,.v (.c 2 7) T38,.v (.c 2 8) T39,.v (.c 2 9) T3,.v (.c 2 10) T3,.v (.c 2 11) T3,.v (.c 2 12) T3,.v (.c 2 13) T35,.obj (.t 5) true 3 1,.v (.c 4 0) T3]] (by kernel_rfl)
noncomputable def qcc(n:Nat):CL Tryz.prog:=⟨[],[qg9 n],0,nof⟩
def qeH(n:Nat):LK Tryz.prog false:=mkL tab (qcc n) [] Tryz.f117 [true,false,true,false,false] 0 n [.v (.t 0) T38,.v (.t 7) T3,.v (.t 8) T3,.fnc (.t 1) 90 [.box true 3 1,.box true 71 1,.box true 3 1],.v (.c 0 0) T3,.obj (.c 1 0) true 79 14,.v (.c 3 0) T34,.v (.c 3 2) T35,.v (.c 3 3) T3,.row (.c 3 4) true T3 3,.v (.c 3 5) T36,.v (.c 3 6) T37,.v (.c 3 7) T38,.v (.c 3 8) T39,.v (.c 3 9) T3,.v (.c 3 10) T3,.v (.c 3 11) T3,.v (.c 3 12) T3,.v (.c 3 13) T35,.v (.c 2 0) T3] [(.exit 0,[.fnc (.t 1) 90 [.box true 3 1,.box true 71 1,.box true 3 1],.v (.c 0 0) T3,.obj (.c 1 0) true 79 14,.v (.c 3 0) T34,.v (.c 3 2) T35,.v (.c 3 3) T3,.row (.c 3 4) true T3 3,.v (.c 3 5) T36,.v (.c 3 6) T37,.v (.c 3 7) T38,.v (.c 3 8) T39,.v (.c 3 9) T3,.v (.c 3 10) T3,.v (.c 3 11) T3,.v (.c 3 12) T3,.v (.c 3 13) T35,.v (.c 2 0) T3]),(.ret,[.v (.t 4) T3,.fnc (.t 1) 90 [.box true 3 1,.box true 71 1,.box true 3 1],.v (.c 0 0) T3,.obj (.c 1 0) true 79 14,.v (.c 3 0) T34,.v (.c 3 2) T35,.v (.c 3 3) T3,.row (.c 3 4) true T3 3,.v (.c 3 5) T36,.v (.c 3 6) T37,.v (.c 3 7) T38,.v (.c 3 8) T39,.v (.c 3 9) T3,.v (.c 3 10) T3,.v (.c 3 11) T3,.v (.c 3 12) T3,.v (.c 3 13) T35,.v (.c 2 0) T3])] (by kernel_rfl)
def qeL(n:Nat):Cw Tryz.prog:=mkW tab (qcc n) [qeH n] Tryz.func117 [.v (.t 0) T38,.fnc (.t 1) 90 [.box true 3 1,.box true 71 1,.box true 3 1],.v (.c 0 0) T3,.obj (.c 1 0) true 79 14,.v (.c 3 0) T34,.v (.c 3 2) T35,.v (.c 3 3) T3,.row (.c 3 4) true T3 3,.v (.c 3 5) T36,.v (.c 3 6) T37,.v (.c 3 7) T38,.v (.c 3 8) T39,.v (.c 3 9) T3,.v (.c 3 10) T3,.v (.c 3 11) T3,.v (.c 3 12) T3,.v (.c 3 13) T35,.v (.c 2 0) T3] 2 [[.v (.t 0) T3,.obj (.t 1) true 3 1,.obj (.t 2) true 71 1,.obj (.t 3) true 3 1,.v (.c 0 0) T3,.obj (.c 1 0) true 79 14,.v (.c 3 0) T34,.v (.c 3 2) T35,.v (.c 3 3) T3,.row (.c 3 4) true T3 3,.v (.c 3 5) T36,.v (.c 3 6) T37,.v (.c 3 7) T38,.v (.c 3 8) T39,.v (.c 3 9) T3,.v (.c 3 10) T3,.v (.c 3 11) T3,.v (.c 3 12) T3,.v (.c 3 13) T35,.v (.c 2 0) T3]] (by kernel_rfl)
noncomputable def qd9(n:Nat):CL Tryz.prog:=⟨[],[qeX n,qg9 n,qeL n],0,nof⟩
def qeh(n:Nat):Cw Tryz.prog:=mkW tab (qd9 n) [] Tryz.func89 [.v (.t 0) T38,.fnc (.t 1) 90 [.box true 3 1,.box true 71 1,.box true 3 1],.v (.c 0 0) T3,.obj (.c 1 0) true 79 14,.v (.c 3 0) T34,.v (.c 3 2) T35,.v (.c 3 3) T3,.row (.c 3 4) true T3 3,.v (.c 3 5) T36,.v (.c 3 6) T37,.v (.c 3 7) T38,.v (.c 3 8) T39,.v (.c 3 9) T3,.v (.c 3 10) T3,.v (.c 3 11) T3,.v (.c 3 12) T3,.v (.c 3 13) T35,.v (.c 2 0) T3] 2 [[.v (.t 0) T4,.obj (.t 1) true 3 1,.obj (.t 2) true 71 1,.obj (.t 3) true 3 1,.v (.c 0 0) T3,.obj (.c 1 0) true 79 14,.v (.c 3 0) T34,.v (.c 3 2) T35,.v (.c 3 3) T3,.row (.c 3 4) true T3 3,.v (.c 3 5) T36,.v (.c 3 6) T37,.v (.c 3 7) T38,.v (.c 3 8) T39,.v (.c 3 9) T3,.v (.c 3 10) T3,.v (.c 3 11) T3,.v (.c 3 12) T3,.v (.c 3 13) T35,.v (.c 2 0) T3]] (by kernel_rfl)
noncomputable def qkY(n:Nat):CL Tryz.prog:=⟨[],[qja n,qeh n],0,nof⟩
def qlp(n:Nat):Cw Tryz.prog:=mkW tab (qkY n) [] Tryz.func59 [.v (.t 1) T3,.v (.t 2) T3,.obj (.t 0) true 79 14,.v (.c 0 0) T34,.v (.c 0 2) T35,.v (.c 0 3) T3,.row (.c 0 4) true T3 3,.v (.c 0 5) T36,.v (.c 0 6) T37,.v (.c 0 7) T38,.v (.c 0 8) T39,.v (.c 0 9) T3,.v (.c 0 10) T3,.v (.c 0 11) T3,.v (.c 0 12) T3,.v (.c 0 13) T35] 3 [[.v (.t 0) T4,.obj (.t 1) true 79 14,.v (.c 0 0) T34,.v (.c 0 2) T35,.v (.c 0 3) T3,.row (.c 0 4) true T3 3,.v (.c 0 5) T36,.v (.c 0 6) T37,.v (.c 0 7) T38,.v (.c 0 8) T39,.v (.c 0 9) T3,.v (.c 0 10) T3,.v (.c 0 11) T3,.v (.c 0 12) T3,.v (.c 0 13) T35]] (by kernel_rfl)
noncomputable def qmE(n:Nat):CL Tryz.prog:=⟨[qri n],[qmC n,qlp n],0,nof⟩
def qne(n:Nat):Cw Tryz.prog:=mkW tab (qmE n) [] Tryz.func35 [.v (.t 1) T77,.v (.t 2) T84,.obj (.t 0) true 79 14,.v (.c 0 0) T34,.v (.c 0 2) T35,.v (.c 0 3) T3,.row (.c 0 4) true T3 3,.v (.c 0 5) T36,.v (.c 0 6) T37,.v (.c 0 7) T38,.v (.c 0 8) T39,.v (.c 0 9) T3,.v (.c 0 10) T3,.v (.c 0 11) T3,.v (.c 0 12) T3,.v (.c 0 13) T35] 3 [[.v (.t 0) T3,.v (.t 1) T3,.obj (.t 2) true 79 14,.v (.c 0 0) T34,.v (.c 0 2) T35,.v (.c 0 3) T3,.row (.c 0 4) true T3 3,.v (.c 0 5) T36,.v (.c 0 6) T37,.v (.c 0 7) T38,.v (.c 0 8) T39,.v (.c 0 9) T3,.v (.c 0 10) T3,.v (.c 0 11) T3,.v (.c 0 12) T3,.v (.c 0 13) T35]] (by kernel_rfl)
noncomputable def qib(n:Nat):CL Tryz.prog:=⟨[],[qne n],0,nof⟩
def qo0(n:Nat):LK Tryz.prog false:=mkL tab (qib n) [] Tryz.f46 [true,true,true,false,true,false,false,true,true,false,false,true,true,false,false] 1 n [.v (.t 6) T3,.v (.t 24) T35,.v (.t 25) T3,.v (.t 26) T3,.v (.t 31) T75,.v (.t 32) T3,.v (.t 33) T3,.obj (.t 1) true 71 1,.obj (.c 0 0) true 79 14,.v (.c 1 0) T34,.v (.c 1 2) T35,.v (.c 1 3) T3,.row (.c 1 4) true T3 3,.v (.c 1 5) T36,.v (.c 1 6) T37,.v (.c 1 7) T38,.v (.c 1 8) T39,.v (.c 1 9) T3,.v (.c 1 10) T3,.v (.c 1 11) T3,.v (.c 1 12) T3,.v (.c 1 13) T35,.obj (.t 2) true 3 1,.v (.c 3 0) T3,.obj (.t 3) true 3 1,.v (.c 4 0) T3,.obj (.t 8) false 77 5,.v (.c 5 0) T77] [(.exit 2,[.v (.t 6) T3,.v (.t 24) T35,.v (.t 25) T3,.v (.t 26) T3,.obj (.t 1) true 71 1,.obj (.c 0 0) true 79 14,.v (.c 1 0) T34,.v (.c 1 2) T35,.v (.c 1 3) T3,.row (.c 1 4) true T3 3,.v (.c 1 5) T36,.v (.c 1 6) T37,.v (.c 1 7) T38,.v (.c 1 8) T39,.v (.c 1 9) T3,.v (.c 1 10) T3,.v (.c 1 11) T3,.v (.c 1 12) T3,.v (.c 1 13) T35,.obj (.t 2) true 3 1,.v (.c 3 0) T3,.obj (.t 3) true 3 1,.v (.c 4 0) T3])] (by kernel_rfl)
def qo1(n:Nat):LK Tryz.prog false:=mkL tab (qib n) [qo0 n] Tryz.f46 [true,true,true,false,true,false,false] 0 n [.v (.t 6) T3,.v (.t 24) T35,.v (.t 25) T3,.v (.t 26) T3,.obj (.t 1) true 71 1,.obj (.c 0 0) true 79 14,.v (.c 1 0) T34,.v (.c 1 2) T35,.v (.c 1 3) T3,.row (.c 1 4) true T3 3,.v (.c 1 5) T36,.v (.c 1 6) T37,.v (.c 1 7) T38,.v (.c 1 8) T39,.v (.c 1 9) T3,.v (.c 1 10) T3,.v (.c 1 11) T3,.v (.c 1 12) T3,.v (.c 1 13) T35,.obj (.t 2) true 3 1,.v (.c 3 0) T3,.obj (.t 3) true 3 1,.v (.c 4 0) T3] [(.exit 0,[.v (.t 6) T3,.obj (.t 1) true 71 1,.obj (.c 0 0) true 79 14,.v (.c 1 0) T34,.v (.c 1 2) T35,.v (.c 1 3) T3,.row (.c 1 4) true T3 3,.v (.c 1 5) T36,.v (.c 1 6) T37,.v (.c 1 7) T38,.v (.c 1 8) T39,.v (.c 1 9) T3,.v (.c 1 10) T3,.v (.c 1 11) T3,.v (.c 1 12) T3,.v (.c 1 13) T35,.obj (.t 2) true 3 1,.v (.c 3 0) T3,.obj (.t 3) true 3 1,.v (.c 4 0) T3])] (by kernel_rfl)
def qk9(n:Nat):Cw Tryz.prog:=mkW tab (qib n) [qo1 n] Tryz.func46 [.v (.t 0) T3,.obj (.t 1) true 71 1,.obj (.c 0 0) true 79 14,.v (.c 1 0) T34,.v (.c 1 2) T35,.v (.c 1 3) T3,.row (.c 1 4) true T3 3,.v (.c 1 5) T36,.v (.c 1 6) T37,.v (.c 1 7) T38,.v (.c 1 8) T39,.v (.c 1 9) T3,.v (.c 1 10) T3,.v (.c 1 11) T3,.v (.c 1 12) T3,.v (.c 1 13) T35,.obj (.t 2) true 3 1,.v (.c 3 0) T3,.obj (.t 3) true 3 1,.v (.c 4 0) T3] 4 [[.v (.t 0) T4,.obj (.t 1) true 71 1,.obj (.c 0 0) true 79 14,.v (.c 1 0) T34,.v (.c 1 2) T35,.v (.c 1 3) T3,.row (.c 1 4) true T3 3,.v (.c 1 5) T36,.v (.c 1 6) T37,.v (.c 1 7) T38,.v (.c 1 8) T39,.v (.c 1 9) T3,.v (.c 1 10) T3,.v (.c 1 11) T3,.v (.c 1 12) T3,.v (.c 1 13) T35,.obj (.t 4) true 3 1,.v (.c 3 0) T3,.obj (.t 5) true 3 1,.v (.c 4 0) T3]] (by kernel_rfl)
noncomputable def qnf(n:Nat):CL Tryz.prog:=⟨[qcZ n],[qkX n,qjV n,qk9 n],2,nof⟩
def qng(n:Nat):LK Tryz.prog false:=mkL tab (qnf n) [] Tryz.f21 [true,true,true,true,true,true,true,true,false,false,false] 0 n [.v (.t 11) T3,.v (.t 12) T3,.obj (.t 4) false 3 1,.v (.c 0 0) T3,.obj (.t 5) false 3 1,.v (.c 1 0) T3,.obj (.t 8) false 71 1,.obj (.c 2 0) false 79 14,.v (.c 3 0) T34,.v (.c 3 2) T35,.v (.c 3 3) T3,.row (.c 3 4) false T3 3,.v (.c 3 5) T36,.v (.c 3 6) T37,.v (.c 3 7) T38,.v (.c 3 8) T39,.v (.c 3 9) T3,.v (.c 3 10) T3,.v (.c 3 11) T3,.v (.c 3 12) T3,.v (.c 3 13) T35,.fnc (.t 10) 46 [.al 2,.al 0,.al 1]] [(.exit 0,[.v (.t 12) T3])] (by kernel_rfl)
def qoa(n:Nat):Ct Tryz.prog:=mkC tab (qnf n) [qng n] Tryz.func21 [.d T41,.d T3,.d T3] [T3,T24] (by kernel_rfl)
end
noncomputable section
noncomputable def qnh(n:Nat):CL Tryz.prog:=⟨[qcZ n],[],0,nof⟩
def qni(n:Nat):LK Tryz.prog false:=mkL tab (qnh n) [] Tryz.f24 [true,true,true,false,true,false,false] 0 n [.v (.t 0) T22,.v (.t 4) T3,.v (.t 10) T22,.v (.t 11) T3,.v (.t 12) T3] [(.exit 0,[.v (.t 0) T22,.v (.t 4) T3]),(.ret,[.v (.t 2) T59,.v (.t 3) T24])] (by kernel_rfl)
def qob(n:Nat):Ct Tryz.prog:=mkC tab (qnh n) [qni n] Tryz.func24 [.d T22] [T59,T24] (by kernel_rfl)
noncomputable def qjA(n:Nat):CL Tryz.prog:=⟨[],[],0,nof⟩
def qjB(n:Nat):LK Tryz.prog false:=mkL tab (qjA n) [] Tryz.f26 [true,false,true,false,false] 0 n [.v (.t 2) T57,.v (.t 5) T59,.v (.t 6) T3,.v (.t 7) T3] [(.exit 0,[.v (.t 2) T57])] (by kernel_rfl)
def qjW(n:Nat):Ct Tryz.prog:=mkC tab (qjA n) [qjB n] Tryz.func26 [.d T59] [T57] (by kernel_rfl)
noncomputable def qjX(n:Nat):CL Tryz.prog:=⟨[tz_C n],[],0,nof⟩
def qjY(n:Nat):LK Tryz.prog false:=mkL tab (qjX n) [] Tryz.f49 [true,false,false,false] 0 n [.v (.t 0) T59,.v (.t 1) T57,.v (.t 4) T3] [(.exit 0,[.v (.t 4) T3])] (by kernel_rfl)
def qkG(n:Nat):Ct Tryz.prog:=mkC tab (qjX n) [qjY n] Tryz.func49 [.d T59,.d T57] [T3] (by kernel_rfl)
abbrev qr:List It:=[.v (.t 0) T57,.obj (.t 1) true 100 1,.mpi (.c 0 0) true T57 T62,.obj (.t 2) true 59 1,.v (.c 2 0) T59,.obj (.t 3) true 63 1,.fnc (.c 3 0) 48 [.al 0,.al 2,.al 3]]
abbrev qq:List (List It):=[[.v (.t 0) T62,.obj (.t 1) true 100 1,.mpi (.c 0 0) true T57 T62,.obj (.t 3) true 59 1,.v (.c 2 0) T59,.obj (.t 4) true 63 1,.fnc (.c 3 0) 48 [.al 0,.al 2,.al 3]]]
abbrev qb:Type:={g:qd qr→Option (qV qq) // qks Tryz.prog 48 4 qr 1 qq g}
noncomputable def qE(n:Nat)(g:qb):CL Tryz.prog:=⟨[qkG n],[⟨48,4,qr,1,qq,g.1,g.2⟩],0,fun _=>false⟩
noncomputable def qcO(n:Nat)(g:qb):Nat→St→PT (DEx×St):=fun _ _=>.fail
abbrev qM:List It:=[.v (.t 0) T57,.v (.t 8) T57,.v (.t 9) T57,.v (.t 11) T57,.obj (.t 1) true 100 1,.mpi (.c 0 0) true T57 T62,.obj (.t 2) true 59 1,.v (.c 2 0) T59,.obj (.t 3) true 63 1,.fnc (.c 3 0) 48 [.al 0,.al 2,.al 3],.row (.t 10) false T57 57]
abbrev qbb:List (DEx×List It):=[(.exit 0,[.v (.t 0) T57,.obj (.t 1) true 100 1,.mpi (.c 0 0) true T57 T62,.obj (.t 2) true 59 1,.v (.c 2 0) T59,.obj (.t 3) true 63 1,.fnc (.c 3 0) 48 [.al 0,.al 2,.al 3],.row (.t 10) false T57 57])]
noncomputable def qcQ(n:Nat)(g:qb)(rec:qd qM→Option (qS qbb))(s:qd qM):Option (qS qbb):=(qdt tab (qE n g) (qcO n g) (subC [true,true,true,true,true,false,true,false,false] (qi Tryz.f48)) 1 (mkS qM 62 s)).run (Lp.leaf 62 qM qbb rec)
noncomputable def qbL(n:Nat)(g:qb):Lp:=⟨62,qM,qbb,qg n (qcQ n g)⟩
theorem qfX(n:Nat)(g:qb):qO (qE n g).c (subC [true,true,true,true,true,false,true,false,false] (qi Tryz.f48)) 1=[]:=by kernel_rfl
theorem qfd(n:Nat)(g:qb)(st:St)(r:DEx×St)(h:((qbL n g).go st).Is r):DA Tryz.prog false (.loop (subC [true,true,true,true,true,false,true,false,false] (qi Tryz.f48))) st r:=Lp.ok (L:=qbL n g) (B:=tab) (cs:=qE n g) (lo:=qcO n g) (id:=0) rfl (qfW (qfX n g) qdn) (fun _ _=>rfl) h
noncomputable def qcR(n:Nat)(g:qb):Nat→St→PT (DEx×St):=fun k st=>match k with
 | 0=>(qbL n g).go st
 | _=>.fail
theorem qf4(n:Nat)(g:qb):qO (qE n g).c (qi Tryz.f48) 0=[(0,.loop (subC [true,true,true,true,true,false,true,false,false] (qi Tryz.f48)))]:=by kernel_rfl
theorem qf5:Tryz.f48.body=some (qi Tryz.f48):=by kernel_rfl
noncomputable def qbM(n:Nat)(g:qb)(x:qd qr):Option (qV qq):=runW tab (qE n g) (qcR n g) (qi Tryz.f48) qr 4 62 [.tmp 5] qq x
theorem qfY(n:Nat)(g:qb):qks Tryz.prog 48 4 qr 1 qq (qbM n g):=fun _ _ h=>qh7 (B:=tab) (cs:=qE n g) (lo:=qcR n g) (rs:=[.tmp 5]) Tryz.func48 (by kernel_rfl) qf5 (by kernel_rfl) (by decide) (qfW (qf4 n g) (all_cons (fun st r h=>qfd n g st r h) qdn)) h
noncomputable def qk(n:Nat):Nat→qb
 | 0=>⟨fun _=>none,fun _ _ h=>by cases h⟩
 | k+1=>⟨qbM n (qk n k),qfY n (qk n k)⟩
noncomputable def qc2(n:Nat)(x:qd qr):Option (qV qq):=(qk n n).1 x
noncomputable def qf6(n:Nat):Cw Tryz.prog:=⟨48,4,qr,1,qq,qc2 n,(qk n n).2⟩
noncomputable def qmF(n:Nat):CL Tryz.prog:=⟨[],[qf6 n],0,nof⟩
def qjb(n:Nat):Ct Tryz.prog:=mkC tab (qmF n) [] Tryz.func25 [.d T59,.d T57] [T62] (by kernel_rfl)
noncomputable def qrM(n:Nat):CL Tryz.prog:=⟨[qdS n],[],0,nof⟩
def qiW(n:Nat):Ct Tryz.prog:=mkC tab (qrM n) [] Tryz.func52 [.d T105,.d T105] [T3] (by kernel_rfl)
noncomputable def qbr(n:Nat):CL Tryz.prog:=⟨[qiW n],[],0,nof⟩
def qcl(n:Nat):LK Tryz.prog false:=mkL tab (qbr n) [] Tryz.f104 [true,false,false,true,false,false,true,false,false] 1 n [.v (.t 1) T3,.v (.t 2) T3,.fn (.t 3) 52 [] [],.v (.t 8) T3,.v (.t 9) T3,.row (.t 0) true T105 105] [(.exit 2,[.v (.t 1) T3,.v (.t 2) T3,.fn (.t 3) 52 [] [],.v (.t 8) T3,.row (.t 0) true T105 105])] (by kernel_rfl)
def qcm(n:Nat):LK Tryz.prog false:=mkL tab (qbr n) [qcl n] Tryz.f104 [true,false,false] 0 n [.v (.t 1) T3,.v (.t 2) T3,.fn (.t 3) 52 [] [],.v (.t 8) T3,.row (.t 0) true T105 105] [(.exit 0,[.row (.t 0) true T105 105])] (by kernel_rfl)
def qcr(n:Nat):Cw Tryz.prog:=mkW tab (qbr n) [qcm n] Tryz.func104 [.v (.t 1) T3,.v (.t 2) T3,.fn (.t 3) 52 [] [],.row (.t 0) true T105 105] 4 [[.row (.t 0) true T105 105]] (by kernel_rfl)
noncomputable def qbf(n:Nat):CL Tryz.prog:=⟨[qiW n],[qcr n],0,nof⟩
def qc3(n:Nat):LK Tryz.prog false:=mkL tab (qbf n) [] Tryz.f72 [true,true,false,false,false] 0 n [.v (.t 1) T3,.fn (.t 2) 52 [] [],.v (.t 6) T3,.v (.t 7) T3,.v (.t 8) T3,.row (.t 0) true T105 105] [(.exit 0,[.v (.t 1) T3,.fn (.t 2) 52 [] [],.v (.t 6) T3,.v (.t 7) T3,.row (.t 0) true T105 105])] (by kernel_rfl)
def qc4(n:Nat):LK Tryz.prog false:=mkL tab (qbf n) [] Tryz.f72 [true,true,true,true,false,false,true,false,true,false,false,false] 2 n [.v (.t 1) T3,.fn (.t 2) 52 [] [],.v (.t 6) T3,.v (.t 7) T3,.v (.t 8) T3,.row (.t 0) true T105 105] [(.exit 4,[.v (.t 1) T3,.fn (.t 2) 52 [] [],.v (.t 6) T3,.v (.t 7) T3,.row (.t 0) true T105 105])] (by kernel_rfl)
def qc5(n:Nat):LK Tryz.prog false:=mkL tab (qbf n) [qc4 n] Tryz.f72 [true,true,true,true,false,false] 1 n [.v (.t 1) T3,.fn (.t 2) 52 [] [],.v (.t 6) T3,.row (.t 0) true T105 105] [(.exit 2,[.row (.t 0) true T105 105])] (by kernel_rfl)
def qdj(n:Nat):Cw Tryz.prog:=mkW tab (qbf n) [qc3 n,qc5 n] Tryz.func72 [.v (.t 1) T3,.fn (.t 2) 52 [] [],.row (.t 0) true T105 105] 3 [[.row (.t 0) true T105 105]] (by kernel_rfl)
noncomputable def qfZ(n:Nat):CL Tryz.prog:=⟨[qiW n],[qdj n],0,nof⟩
def qc6(n:Nat):Cw Tryz.prog:=mkW tab (qfZ n) [] Tryz.func51 [.fn (.t 1) 52 [] [],.row (.t 0) true T105 105] 2 [[.row (.t 0) true T105 105]] (by kernel_rfl)
noncomputable def qkH(n:Nat):CL Tryz.prog:=⟨[],[],0,nof⟩
def qeZ(n:Nat):Ct Tryz.prog:=mkC tab (qkH n) [] Tryz.func54 [.d T105] [T4] (by kernel_rfl)
noncomputable def qbR(n:Nat):CL Tryz.prog:=⟨[qeZ n],[],0,nof⟩
def qbS(n:Nat):LK Tryz.prog false:=mkL tab (qbR n) [] Tryz.f73 [true,false,true,false,false] 0 n [.fn (.t 1) 54 [] [],.v (.t 7) T3,.v (.t 8) T3,.row (.t 0) true T105 105] [(.exit 0,[.row (.t 0) true T105 105]),(.ret,[.v (.t 4) T3,.row (.t 0) true T105 105])] (by kernel_rfl)
def qbW(n:Nat):Cw Tryz.prog:=mkW tab (qbR n) [qbS n] Tryz.func73 [.fn (.t 1) 54 [] [],.row (.t 0) true T105 105] 2 [[.v (.t 0) T3,.row (.t 1) true T105 105]] (by kernel_rfl)
noncomputable def qb4(n:Nat):CL Tryz.prog:=⟨[qeZ n],[qbW n],0,nof⟩
def qb5(n:Nat):LK Tryz.prog false:=mkL tab (qb4 n) [] Tryz.f53 [true,true,true,false,true,false,false] 0 n [.fn (.t 1) 54 [] [],.v (.t 5) T3,.v (.t 6) T3,.row (.t 0) true T105 105] [(.exit 0,[.v (.t 5) T3,.row (.t 0) true T105 105])] (by kernel_rfl)
def qb8(n:Nat):Cw Tryz.prog:=mkW tab (qb4 n) [qb5 n] Tryz.func53 [.fn (.t 1) 54 [] [],.row (.t 0) true T105 105] 2 [[.row (.t 1) true T105 105,.sub (.t 0) 0]] (by kernel_rfl)
noncomputable def qfe(n:Nat):CL Tryz.prog:=⟨[tz_C n],[qc6 n,qb8 n],1,nof⟩
def qhV(n:Nat):LK Tryz.prog false:=mkL tab (qfe n) [] Tryz.f27 [true,true,false,false,false] 0 n [.v (.t 0) T59,.v (.t 1) T57,.row (.t 4) false T67 67,.row (.t 5) false T105 105] [(.exit 0,[.row (.t 4) false T67 67,.row (.t 5) false T105 105])] (by kernel_rfl)
def qhW(n:Nat):LK Tryz.prog false:=mkL tab (qfe n) [] Tryz.f27 [true,true,true,false,false,false] 1 n [.row (.t 4) false T67 67,.row (.t 5) false T105 105] [(.exit 2,[.row (.t 4) false T67 67])] (by kernel_rfl)
def qic(n:Nat):Ct Tryz.prog:=mkC tab (qfe n) [qhV n,qhW n] Tryz.func27 [.d T59,.d T57] [T27] (by kernel_rfl)
noncomputable def qmo(n:Nat):CL Tryz.prog:=⟨[qob n,qjb n,qjW n,qic n],[],0,nof⟩
def qmp(n:Nat):LK Tryz.prog false:=mkL tab (qmo n) [] Tryz.f10 [true,true,true,true,false,true,false,false] 0 n [.v (.t 4) T59,.v (.t 20) T62,.v (.t 21) T3,.v (.t 22) T3,.row (.t 6) false T67 67] [(.exit 0,[.row (.t 6) false T67 67])] (by kernel_rfl)
def qiw(n:Nat):Ct Tryz.prog:=mkC tab (qmo n) [qmp n] Tryz.func10 [.d T22] [T27,T24] (by kernel_rfl)
noncomputable def qrj(n:Nat):CL Tryz.prog:=⟨[qiw n],[],0,nof⟩
def qix(n:Nat):Ct Tryz.prog:=mkC tab (qrj n) [] Tryz.func8 [.d T22] [T3,T24] (by kernel_rfl)
end
noncomputable section
end
noncomputable section
noncomputable def qha(n:Nat):CL Tryz.prog:=⟨[qgY n],[],0,nof⟩
def qhb(n:Nat):LK Tryz.prog false:=mkL tab (qha n) [] Tryz.f12 [true,true,true,false,true,false,false] 0 n [.v (.t 0) T22,.v (.t 3) T3,.v (.t 4) T3] [(.exit 0,[.v (.t 3) T3]),(.ret,[.v (.t 2) T4])] (by kernel_rfl)
def qe0(n:Nat):Ct Tryz.prog:=mkC tab (qha n) [qhb n] Tryz.func12 [.d T22] [T4] (by kernel_rfl)
noncomputable def qjc(n:Nat):CL Tryz.prog:=⟨[],[],0,nof⟩
def qjd(n:Nat):LK Tryz.prog false:=mkL tab (qjc n) [] Tryz.f47 [true,true,false,true,false,false] 0 n [.v (.t 0) T22,.v (.t 1) T3,.v (.t 5) T3,.v (.t 6) T3] [(.exit 0,[.v (.t 5) T3])] (by kernel_rfl)
def qjC(n:Nat):Ct Tryz.prog:=mkC tab (qjc n) [qjd n] Tryz.func47 [.d T22,.d T3] [T3] (by kernel_rfl)
abbrev qbx:List It:=[.v (.t 0) T22,.v (.t 1) T3]
abbrev qbp:List (List It):=[[.v (.t 0) T3]]
abbrev qj:Type:={g:qd qbx→Option (qV qbp) // qks Tryz.prog 23 2 qbx 1 qbp g}
noncomputable def qbg(n:Nat)(g:qj):CL Tryz.prog:=⟨[qjC n],[⟨23,2,qbx,1,qbp,g.1,g.2⟩],0,fun _=>false⟩
noncomputable def qid(n:Nat)(g:qj):Nat→St→PT (DEx×St):=fun _ _=>.fail
abbrev qc7:List It:=[.v (.t 0) T22,.v (.t 1) T3,.v (.t 5) T3,.v (.t 6) T3,.v (.t 7) T3]
abbrev qd6:List (DEx×List It):=[(.exit 0,[.v (.t 0) T22,.v (.t 1) T3,.v (.t 5) T3,.v (.t 6) T3])]
noncomputable def qiA(n:Nat)(g:qj)(rec:qd qc7→Option (qS qd6))(s:qd qc7):Option (qS qd6):=(qdt tab (qbg n g) (qid n g) (subC [true,true,false,true,false,false] (qi Tryz.f23)) 1 (mkS qc7 78 s)).run (Lp.leaf 78 qc7 qd6 rec)
noncomputable def qf7(n:Nat)(g:qj):Lp:=⟨78,qc7,qd6,qg n (qiA n g)⟩
theorem ql1(n:Nat)(g:qj):qO (qbg n g).c (subC [true,true,false,true,false,false] (qi Tryz.f23)) 1=[]:=by kernel_rfl
theorem qkZ(n:Nat)(g:qj)(st:St)(r:DEx×St)(h:((qf7 n g).go st).Is r):DA Tryz.prog false (.loop (subC [true,true,false,true,false,false] (qi Tryz.f23))) st r:=Lp.ok (L:=qf7 n g) (B:=tab) (cs:=qbg n g) (lo:=qid n g) (id:=0) rfl (qfW (ql1 n g) qdn) (fun _ _=>rfl) h
noncomputable def qie(n:Nat)(g:qj):Nat→St→PT (DEx×St):=fun _ _=>.fail
abbrev qc8:List It:=[.v (.t 0) T22,.v (.t 1) T3,.v (.t 5) T3,.v (.t 8) T3,.v (.t 9) T3]
abbrev qd7:List (DEx×List It):=[(.exit 2,[.v (.t 8) T3])]
noncomputable def qiB(n:Nat)(g:qj)(rec:qd qc8→Option (qS qd7))(s:qd qc8):Option (qS qd7):=(qdt tab (qbg n g) (qie n g) (subC [true,true,true,true,true,true,false,true,false,false] (qi Tryz.f23)) 2 (mkS qc8 78 s)).run (Lp.leaf 78 qc8 qd7 rec)
noncomputable def qf8(n:Nat)(g:qj):Lp:=⟨78,qc8,qd7,qg n (qiB n g)⟩
theorem ql2(n:Nat)(g:qj):qO (qbg n g).c (subC [true,true,true,true,true,true,false,true,false,false] (qi Tryz.f23)) 2=[]:=by kernel_rfl
theorem qk0(n:Nat)(g:qj)(st:St)(r:DEx×St)(h:((qf8 n g).go st).Is r):DA Tryz.prog false (.loop (subC [true,true,true,true,true,true,false,true,false,false] (qi Tryz.f23))) st r:=Lp.ok (L:=qf8 n g) (B:=tab) (cs:=qbg n g) (lo:=qie n g) (id:=1) rfl (qfW (ql2 n g) qdn) (fun _ _=>rfl) h
noncomputable def qiC(n:Nat)(g:qj):Nat→St→PT (DEx×St):=fun k st=>match k with
 | 0=>(qf7 n g).go st
 | 1=>(qf8 n g).go st
 | _=>.fail
theorem qmG(n:Nat)(g:qj):qO (qbg n g).c (qi Tryz.f23) 0=[(0,.loop (subC [true,true,false,true,false,false] (qi Tryz.f23))),(1,.loop (subC [true,true,true,true,true,true,false,true,false,false] (qi Tryz.f23)))]:=by kernel_rfl
theorem qmH:Tryz.f23.body=some (qi Tryz.f23):=by kernel_rfl
noncomputable def qf9(n:Nat)(g:qj)(x:qd qbx):Option (qV qbp):=runW tab (qbg n g) (qiC n g) (qi Tryz.f23) qbx 2 78 [.tmp 4] qbp x
theorem ql3(n:Nat)(g:qj):qks Tryz.prog 23 2 qbx 1 qbp (qf9 n g):=fun _ _ h=>qh7 (B:=tab) (cs:=qbg n g) (lo:=qiC n g) (rs:=[.tmp 4]) Tryz.func23 (by kernel_rfl) qmH (by kernel_rfl) (by decide) (qfW (qmG n g) (all_cons (fun st r h=>qkZ n g st r h) (all_cons (fun st r h=>qk0 n g st r h) qdn))) h
noncomputable def qL(n:Nat):Nat→qj
 | 0=>⟨fun _=>none,fun _ _ h=>by cases h⟩
 | k+1=>⟨qf9 n (qL n k),ql3 n (qL n k)⟩
noncomputable def qiR(n:Nat)(x:qd qbx):Option (qV qbp):=(qL n n).1 x
noncomputable def qmI(n:Nat):Cw Tryz.prog:=⟨23,2,qbx,1,qbp,qiR n,(qL n n).2⟩
noncomputable def qiS(n:Nat):CL Tryz.prog:=⟨[qe0 n],[qmI n],0,nof⟩
def qiT(n:Nat):LK Tryz.prog false:=mkL tab (qiS n) [] Tryz.f9 [true,true,true,false,true,false,false] 0 n [.v (.t 0) T22,.v (.t 4) T3,.v (.t 5) T3,.v (.t 6) T3] [(.exit 0,[.v (.t 0) T22,.v (.t 4) T3,.v (.t 5) T3])] (by kernel_rfl)
def qje(n:Nat):Ct Tryz.prog:=mkC tab (qiS n) [qiT n] Tryz.func9 [.d T22] [T3,T24] (by kernel_rfl)
noncomputable def qga(n:Nat):CL Tryz.prog:=⟨[qgY n],[],0,nof⟩
def qiD(n:Nat):LK Tryz.prog false:=mkL tab (qga n) [] Tryz.f11 [true,true,false,true,false,false] 0 n [.v (.t 1) T27,.v (.t 6) T3,.row (.t 5) false T3 3] [(.exit 0,[.row (.t 5) false T3 3]),(.ret,[.v (.t 4) T4])] (by kernel_rfl)
def qiE(n:Nat):LK Tryz.prog false:=mkL tab (qga n) [] Tryz.f11 [true,true,true,false,true,false,false] 1 n [.v (.t 8) T3,.row (.t 5) false T3 3] [(.exit 2,[]),(.ret,[.v (.t 4) T4])] (by kernel_rfl)
def qgy(n:Nat):Ct Tryz.prog:=mkC tab (qga n) [qiD n,qiE n] Tryz.func11 [.d T22,.d T27] [T4] (by kernel_rfl)
noncomputable def qif(n:Nat):CL Tryz.prog:=⟨[],[],0,nof⟩
def qlS(n:Nat):LK Tryz.prog false:=mkL tab (qif n) [] Tryz.f22 [true,true,false,true,false,false] 0 n [.v (.t 0) T22,.v (.t 1) T22,.v (.t 5) T3] [(.exit 0,[]),(.ret,[.v (.t 4) T4])] (by kernel_rfl)
def qiF(n:Nat):Ct Tryz.prog:=mkC tab (qif n) [qlS n] Tryz.func22 [.d T22,.d T22] [T4] (by kernel_rfl)
noncomputable def qnj(n:Nat):CL Tryz.prog:=⟨[qix n,qlR n,qiQ n,qoa n,qiF n],[],0,nof⟩
def qhu(n:Nat):Ct Tryz.prog:=mkC tab (qnj n) [] Tryz.func7 [] [T4] (by kernel_rfl)
noncomputable def qkl(n:Nat):CL Tryz.prog:=⟨[qhu n,qix n,qje n,qiw n,qgy n],[],0,nof⟩
def qcd(n:Nat):Ct Tryz.prog:=mkC tab (qkl n) [] Tryz.func3 [.d T22] [T4] (by kernel_rfl)
noncomputable def qgZ(n:Nat):CL Tryz.prog:=⟨[qhu n,qix n,qiw n,qgy n,qe0 n],[],0,nof⟩
def qg0(n:Nat):LK Tryz.prog false:=mkL tab (qgZ n) [] Tryz.f4 [true,true,true,true,true,false,true,false,false] 0 n [.v (.t 0) T22,.v (.t 1) T27,.v (.t 5) T27,.v (.t 6) T24,.v (.t 7) T3,.v (.t 8) T24,.v (.t 9) T3,.v (.t 10) T3] [(.exit 0,[.v (.t 0) T22,.v (.t 1) T27,.v (.t 5) T27,.v (.t 6) T24,.v (.t 7) T3,.v (.t 8) T24,.v (.t 9) T3])] (by kernel_rfl)
def qce(n:Nat):Ct Tryz.prog:=mkC tab (qgZ n) [qg0 n] Tryz.func4 [.d T22,.d T27] [T4] (by kernel_rfl)
end
end Go.Proofs.YtcjcacbhkoainaaGreatDoor
