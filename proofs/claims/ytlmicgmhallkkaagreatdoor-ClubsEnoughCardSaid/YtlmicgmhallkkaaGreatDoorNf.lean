/- Texts DnN, DnO, DnQ, Dnz, DnV, DnW, DnX, DnY, DnL, DnZ in one. -/
import Derived.Test.YtlmicgmhallkkaaGreatDoorNe
import Derived.Test.YtlmicgmhallkkaaGreatDoorNd
import Derived.Test.YtlmicgmhallkkaaGreatDoorKa
import Derived.Test.YtlmicgmhallkkaaGreatDoorTy
/- Printed: what functions of the program compute. -/
set_option linter.constructorNameAsVariable false
set_option linter.unusedSimpArgs false
set_option linter.unusedVariables false
set_option linter.unusedSectionVars false
namespace Go.Proofs.YtlmicgmhallkkaaGreatDoor
open Go Go.Proofs Go.RowKit
set_option maxRecDepth 20000
noncomputable section
noncomputable def qx6(n:Nat):CL Tryz.prog:=⟨[],[],0,nof⟩
def qd3(n:Nat):Ct Tryz.prog:=mkC tab (qx6 n) [] Tryz.func47 [.d T3,.d T3,.d T3] [T4] (by kernel_rfl)
noncomputable def qxg(n:Nat):CL Tryz.prog:=⟨[qd3 n],[],0,nof⟩
def qhf(n:Nat):Ct Tryz.prog:=mkC tab (qxg n) [] Tryz.func73 [.d T3] [T4] (by kernel_rfl)
noncomputable def qAU(n:Nat):CL Tryz.prog:=⟨[qd3 n],[],0,nof⟩
def qlq(n:Nat):Ct Tryz.prog:=mkC tab (qAU n) [] Tryz.func68 [.d T3] [T4] (by kernel_rfl)
noncomputable def qmN(n:Nat):CL Tryz.prog:=⟨[qhf n],[],0,nof⟩
def qda(n:Nat):Cw Tryz.prog:=mkW tab (qmN n) [] Tryz.func104 [.v (.t 0) T3,.obj (.t 1) true 98 1,.fnc (.c 0 0) 73 []] 2 [[.v (.t 0) T4,.obj (.t 1) true 98 1,.fnc (.c 0 0) 73 []]] (by kernel_rfl)
noncomputable def qdh(n:Nat):CL Tryz.prog:=⟨[qhf n],[qda n],0,nof⟩
def qdi(n:Nat):LK Tryz.prog false:=mkL tab (qdh n) [] Tryz.f142 [true,false,true,false,false] 0 n [.v (.t 0) T22,.v (.t 7) T3,.v (.t 8) T3,.fnc (.t 1) 104 [.box true 98 1],.fnc (.c 0 0) 73 []] [(.exit 0,[.fnc (.t 1) 104 [.box true 98 1],.fnc (.c 0 0) 73 []]),(.ret,[.v (.t 4) T3,.fnc (.t 1) 104 [.box true 98 1],.fnc (.c 0 0) 73 []])] (by kernel_rfl)
def qdA(n:Nat):Cw Tryz.prog:=mkW tab (qdh n) [qdi n] Tryz.func142 [.v (.t 0) T22,.fnc (.t 1) 104 [.box true 98 1],.fnc (.c 0 0) 73 []] 2 [[.v (.t 0) T3,.obj (.t 1) true 98 1,.fnc (.c 0 0) 73 []]] (by kernel_rfl)
noncomputable def qf3(n:Nat):CL Tryz.prog:=⟨[qhf n],[qda n,qdA n],0,nof⟩
def qcZ(n:Nat):Cw Tryz.prog:=mkW tab (qf3 n) [] Tryz.func103 [.v (.t 0) T22,.fnc (.t 1) 104 [.box true 98 1],.fnc (.c 0 0) 73 []] 2 [[.v (.t 0) T4,.obj (.t 1) true 98 1,.fnc (.c 0 0) 73 []]] (by kernel_rfl)
noncomputable def qnn(n:Nat):CL Tryz.prog:=⟨[qhf n],[qcZ n],0,nof⟩
def qie(n:Nat):Cw Tryz.prog:=mkW tab (qnn n) [] Tryz.func67 [.v (.t 0) T22,.fn (.t 1) 73 [] []] 2 [[.v (.t 0) T4]] (by kernel_rfl)
noncomputable def qop(n:Nat):CL Tryz.prog:=⟨[qlq n],[],0,nof⟩
def qfT(n:Nat):Cw Tryz.prog:=mkW tab (qop n) [] Tryz.func104 [.v (.t 0) T3,.obj (.t 1) true 98 1,.fnc (.c 0 0) 68 []] 2 [[.v (.t 0) T4,.obj (.t 1) true 98 1,.fnc (.c 0 0) 68 []]] (by kernel_rfl)
noncomputable def qdU(n:Nat):CL Tryz.prog:=⟨[qlq n],[qfT n],0,nof⟩
def qdV(n:Nat):LK Tryz.prog false:=mkL tab (qdU n) [] Tryz.f142 [true,false,true,false,false] 0 n [.v (.t 0) T22,.v (.t 7) T3,.v (.t 8) T3,.fnc (.t 1) 104 [.box true 98 1],.fnc (.c 0 0) 68 []] [(.exit 0,[.fnc (.t 1) 104 [.box true 98 1],.fnc (.c 0 0) 68 []]),(.ret,[.v (.t 4) T3,.fnc (.t 1) 104 [.box true 98 1],.fnc (.c 0 0) 68 []])] (by kernel_rfl)
def qd5(n:Nat):Cw Tryz.prog:=mkW tab (qdU n) [qdV n] Tryz.func142 [.v (.t 0) T22,.fnc (.t 1) 104 [.box true 98 1],.fnc (.c 0 0) 68 []] 2 [[.v (.t 0) T3,.obj (.t 1) true 98 1,.fnc (.c 0 0) 68 []]] (by kernel_rfl)
noncomputable def qgJ(n:Nat):CL Tryz.prog:=⟨[qlq n],[qda n,qfT n,qd5 n],0,nof⟩
def qdF(n:Nat):Cw Tryz.prog:=mkW tab (qgJ n) [] Tryz.func103 [.v (.t 0) T22,.fnc (.t 1) 104 [.box true 98 1],.fnc (.c 0 0) 68 []] 2 [[.v (.t 0) T4,.obj (.t 1) true 98 1,.fnc (.c 0 0) 68 []]] (by kernel_rfl)
noncomputable def qpg(n:Nat):CL Tryz.prog:=⟨[qlq n],[qdF n],0,nof⟩
def qkd(n:Nat):Cw Tryz.prog:=mkW tab (qpg n) [] Tryz.func67 [.v (.t 0) T22,.fn (.t 1) 68 [] []] 2 [[.v (.t 0) T4]] (by kernel_rfl)
noncomputable def qsI(n:Nat):CL Tryz.prog:=⟨[],[qie n],0,nof⟩
def qsJ(n:Nat):LK Tryz.prog false:=mkL tab (qsI n) [] Tryz.f55 [true,true,false,true,false,false] 0 n [.v (.t 0) T22,.v (.t 3) T3,.v (.t 6) T22,.v (.t 7) T3,.v (.t 8) T3] [(.exit 0,[.v (.t 0) T22,.v (.t 3) T3])] (by kernel_rfl)
def qpQ(n:Nat):Ct Tryz.prog:=mkC tab (qsI n) [qsJ n] Tryz.func55 [.d T22] [T4] (by kernel_rfl)
noncomputable def qwp(n:Nat):CL Tryz.prog:=⟨[qd3 n],[],0,nof⟩
def qcA(n:Nat):Cw Tryz.prog:=mkW tab (qwp n) [] Tryz.func62 [.v (.t 0) T3,.obj (.t 1) true 41 13,.v (.c 0 0) T41] 2 [[.v (.t 0) T4,.obj (.t 1) true 41 13,.v (.c 0 0) T41]] (by kernel_rfl)
noncomputable def qwq(n:Nat):CL Tryz.prog:=⟨[qpQ n],[],0,nof⟩
def qif(n:Nat):Cw Tryz.prog:=mkW tab (qwq n) [] Tryz.func63 [.v (.t 0) T22,.obj (.t 1) true 41 13,.v (.c 0 0) T41] 2 [[.v (.t 0) T4,.obj (.t 1) true 41 13,.v (.c 0 0) T41]] (by kernel_rfl)
noncomputable def qwr(n:Nat):CL Tryz.prog:=⟨[qd3 n],[],0,nof⟩
def qig(n:Nat):Cw Tryz.prog:=mkW tab (qwr n) [] Tryz.func64 [.v (.t 0) T112,.obj (.t 1) true 110 1,.mpi (.c 0 0) true T3 T3,.obj (.t 2) true 41 13,.v (.c 2 0) T41] 3 [[.v (.t 0) T4,.obj (.t 1) true 110 1,.mpi (.c 0 0) true T3 T3,.obj (.t 3) true 41 13,.v (.c 2 0) T41]] (by kernel_rfl)
noncomputable def qoq(n:Nat):CL Tryz.prog:=⟨[],[qcA n],0,nof⟩
def qcL(n:Nat):Cw Tryz.prog:=mkW tab (qoq n) [] Tryz.func65 [.v (.t 0) T64,.obj (.t 1) true 98 1,.fnc (.c 0 0) 62 [.box true 41 13],.v (.c 1 0) T41] 2 [[.v (.t 0) T4,.obj (.t 1) true 98 1,.fnc (.c 0 0) 62 [.box true 41 13],.v (.c 1 0) T41]] (by kernel_rfl)
noncomputable def qor(n:Nat):CL Tryz.prog:=⟨[qd3 n],[qcA n],0,nof⟩
def qcM(n:Nat):Cw Tryz.prog:=mkW tab (qor n) [] Tryz.func66 [.v (.t 0) T108,.obj (.t 1) true 98 1,.obj (.t 2) true 41 13,.v (.c 1 0) T41,.fnc (.c 0 0) 62 [.al 1]] 3 [[.v (.t 0) T4,.obj (.t 1) true 98 1,.obj (.t 2) true 41 13,.v (.c 1 0) T41,.fnc (.c 0 0) 62 [.al 1]]] (by kernel_rfl)
noncomputable def qmO(n:Nat):CL Tryz.prog:=⟨[],[qif n],0,nof⟩
def qeT(n:Nat):Cw Tryz.prog:=mkW tab (qmO n) [] Tryz.func106 [.v (.t 0) T22,.obj (.t 1) true 31 1,.fnc (.c 0 0) 63 [.box true 41 13],.v (.c 1 0) T41] 2 [[.v (.t 0) T4,.obj (.t 1) true 31 1,.fnc (.c 0 0) 63 [.box true 41 13],.v (.c 1 0) T41]] (by kernel_rfl)
noncomputable def qdj(n:Nat):CL Tryz.prog:=⟨[],[qif n,qeT n],0,nof⟩
def qdk(n:Nat):LK Tryz.prog false:=mkL tab (qdj n) [] Tryz.f143 [true,false,true,false,false] 0 n [.v (.t 0) T36,.v (.t 7) T3,.v (.t 8) T3,.fnc (.t 1) 106 [.box true 31 1],.fnc (.c 0 0) 63 [.box true 41 13],.v (.c 1 0) T41] [(.exit 0,[.fnc (.t 1) 106 [.box true 31 1],.fnc (.c 0 0) 63 [.box true 41 13],.v (.c 1 0) T41]),(.ret,[.v (.t 4) T3,.fnc (.t 1) 106 [.box true 31 1],.fnc (.c 0 0) 63 [.box true 41 13],.v (.c 1 0) T41])] (by kernel_rfl)
def qdB(n:Nat):Cw Tryz.prog:=mkW tab (qdj n) [qdk n] Tryz.func143 [.v (.t 0) T36,.fnc (.t 1) 106 [.box true 31 1],.fnc (.c 0 0) 63 [.box true 41 13],.v (.c 1 0) T41] 2 [[.v (.t 0) T3,.obj (.t 1) true 31 1,.fnc (.c 0 0) 63 [.box true 41 13],.v (.c 1 0) T41]] (by kernel_rfl)
noncomputable def qf4(n:Nat):CL Tryz.prog:=⟨[],[qif n,qeT n,qdB n],0,nof⟩
def qc0(n:Nat):Cw Tryz.prog:=mkW tab (qf4 n) [] Tryz.func105 [.v (.t 0) T36,.fnc (.t 1) 106 [.box true 31 1],.fnc (.c 0 0) 63 [.box true 41 13],.v (.c 1 0) T41] 2 [[.v (.t 0) T4,.obj (.t 1) true 31 1,.fnc (.c 0 0) 63 [.box true 41 13],.v (.c 1 0) T41]] (by kernel_rfl)
noncomputable def qno(n:Nat):CL Tryz.prog:=⟨[],[qif n,qc0 n],0,nof⟩
def qih(n:Nat):Cw Tryz.prog:=mkW tab (qno n) [] Tryz.func69 [.v (.t 0) T36,.fnc (.t 1) 63 [.box true 41 13],.v (.c 0 0) T41] 2 [[.v (.t 0) T4,.obj (.t 1) true 41 13,.v (.c 0 0) T41]] (by kernel_rfl)
noncomputable def qkO(n:Nat):CL Tryz.prog:=⟨[],[qig n],0,nof⟩
def qdW(n:Nat):Cw Tryz.prog:=mkW tab (qkO n) [] Tryz.func108 [.v (.t 0) T112,.obj (.t 1) true 113 1,.fnc (.c 0 0) 64 [.box true 110 1,.box true 41 13],.mpi (.c 1 0) true T3 T3,.v (.c 2 0) T41] 2 [[.v (.t 0) T4,.obj (.t 1) true 113 1,.fnc (.c 0 0) 64 [.box true 110 1,.box true 41 13],.mpi (.c 1 0) true T3 T3,.v (.c 2 0) T41]] (by kernel_rfl)
noncomputable def qcm(n:Nat):CL Tryz.prog:=⟨[],[qig n,qdW n],0,nof⟩
def qcn(n:Nat):LK Tryz.prog false:=mkL tab (qcm n) [] Tryz.f144 [true,false,true,false,false] 0 n [.v (.t 0) T37,.v (.t 7) T3,.v (.t 8) T3,.fnc (.t 1) 108 [.box true 113 1],.fnc (.c 0 0) 64 [.box true 110 1,.box true 41 13],.mpi (.c 1 0) true T3 T3,.v (.c 2 0) T41] [(.exit 0,[.fnc (.t 1) 108 [.box true 113 1],.fnc (.c 0 0) 64 [.box true 110 1,.box true 41 13],.mpi (.c 1 0) true T3 T3,.v (.c 2 0) T41]),(.ret,[.v (.t 4) T3,.fnc (.t 1) 108 [.box true 113 1],.fnc (.c 0 0) 64 [.box true 110 1,.box true 41 13],.mpi (.c 1 0) true T3 T3,.v (.c 2 0) T41])] (by kernel_rfl)
def qcw(n:Nat):Cw Tryz.prog:=mkW tab (qcm n) [qcn n] Tryz.func144 [.v (.t 0) T37,.fnc (.t 1) 108 [.box true 113 1],.fnc (.c 0 0) 64 [.box true 110 1,.box true 41 13],.mpi (.c 1 0) true T3 T3,.v (.c 2 0) T41] 2 [[.v (.t 0) T3,.obj (.t 1) true 113 1,.fnc (.c 0 0) 64 [.box true 110 1,.box true 41 13],.mpi (.c 1 0) true T3 T3,.v (.c 2 0) T41]] (by kernel_rfl)
noncomputable def qeP(n:Nat):CL Tryz.prog:=⟨[],[qig n,qdW n,qcw n],0,nof⟩
def qcd(n:Nat):Cw Tryz.prog:=mkW tab (qeP n) [] Tryz.func107 [.v (.t 0) T37,.fnc (.t 1) 108 [.box true 113 1],.fnc (.c 0 0) 64 [.box true 110 1,.box true 41 13],.mpi (.c 1 0) true T3 T3,.v (.c 2 0) T41] 2 [[.v (.t 0) T4,.obj (.t 1) true 113 1,.fnc (.c 0 0) 64 [.box true 110 1,.box true 41 13],.mpi (.c 1 0) true T3 T3,.v (.c 2 0) T41]] (by kernel_rfl)
noncomputable def qlu(n:Nat):CL Tryz.prog:=⟨[],[qig n,qcd n],0,nof⟩
def qgI(n:Nat):Cw Tryz.prog:=mkW tab (qlu n) [] Tryz.func70 [.v (.t 0) T37,.fnc (.t 1) 64 [.box true 110 1,.box true 41 13],.mpi (.c 0 0) true T3 T3,.v (.c 1 0) T41] 2 [[.v (.t 0) T4,.obj (.t 1) true 110 1,.obj (.t 2) true 41 13,.mpi (.c 0 0) true T3 T3,.v (.c 1 0) T41]] (by kernel_rfl)
noncomputable def qgY(n:Nat):CL Tryz.prog:=⟨[],[qcA n,qcL n],0,nof⟩
def qbX(n:Nat):Cw Tryz.prog:=mkW tab (qgY n) [] Tryz.func110 [.v (.t 0) T64,.obj (.t 1) true 114 1,.fnc (.c 0 0) 65 [.box true 98 1],.fnc (.c 1 0) 62 [.box true 41 13],.v (.c 2 0) T41] 2 [[.v (.t 0) T4,.obj (.t 1) true 114 1,.fnc (.c 0 0) 65 [.box true 98 1],.fnc (.c 1 0) 62 [.box true 41 13],.v (.c 2 0) T41]] (by kernel_rfl)
noncomputable def qbo(n:Nat):CL Tryz.prog:=⟨[],[qcA n,qcL n,qbX n],0,nof⟩
def qbp(n:Nat):LK Tryz.prog false:=mkL tab (qbo n) [] Tryz.f145 [true,false,true,false,false] 0 n [.v (.t 0) T38,.v (.t 7) T3,.v (.t 8) T3,.fnc (.t 1) 110 [.box true 114 1],.fnc (.c 0 0) 65 [.box true 98 1],.fnc (.c 1 0) 62 [.box true 41 13],.v (.c 2 0) T41] [(.exit 0,[.fnc (.t 1) 110 [.box true 114 1],.fnc (.c 0 0) 65 [.box true 98 1],.fnc (.c 1 0) 62 [.box true 41 13],.v (.c 2 0) T41]),(.ret,[.v (.t 4) T3,.fnc (.t 1) 110 [.box true 114 1],.fnc (.c 0 0) 65 [.box true 98 1],.fnc (.c 1 0) 62 [.box true 41 13],.v (.c 2 0) T41])] (by kernel_rfl)
def qP(n:Nat):Cw Tryz.prog:=mkW tab (qbo n) [qbp n] Tryz.func145 [.v (.t 0) T38,.fnc (.t 1) 110 [.box true 114 1],.fnc (.c 0 0) 65 [.box true 98 1],.fnc (.c 1 0) 62 [.box true 41 13],.v (.c 2 0) T41] 2 [[.v (.t 0) T3,.obj (.t 1) true 114 1,.fnc (.c 0 0) 65 [.box true 98 1],.fnc (.c 1 0) 62 [.box true 41 13],.v (.c 2 0) T41]] (by kernel_rfl)
noncomputable def qds(n:Nat):CL Tryz.prog:=⟨[],[qcA n,qcL n,qbX n,qP n],0,nof⟩
def qN(n:Nat):Cw Tryz.prog:=mkW tab (qds n) [] Tryz.func109 [.v (.t 0) T38,.fnc (.t 1) 110 [.box true 114 1],.fnc (.c 0 0) 65 [.box true 98 1],.fnc (.c 1 0) 62 [.box true 41 13],.v (.c 2 0) T41] 2 [[.v (.t 0) T4,.obj (.t 1) true 114 1,.fnc (.c 0 0) 65 [.box true 98 1],.fnc (.c 1 0) 62 [.box true 41 13],.v (.c 2 0) T41]] (by kernel_rfl)
noncomputable def qhp(n:Nat):CL Tryz.prog:=⟨[],[qcA n,qcL n,qN n],0,nof⟩
def qd6(n:Nat):Cw Tryz.prog:=mkW tab (qhp n) [] Tryz.func71 [.v (.t 0) T38,.fnc (.t 1) 65 [.box true 98 1],.fnc (.c 0 0) 62 [.box true 41 13],.v (.c 1 0) T41] 2 [[.v (.t 0) T4,.obj (.t 1) true 98 1,.fnc (.c 0 0) 62 [.box true 41 13],.v (.c 1 0) T41]] (by kernel_rfl)
noncomputable def qg3(n:Nat):CL Tryz.prog:=⟨[],[qcA n,qcM n],0,nof⟩
def qb9(n:Nat):Cw Tryz.prog:=mkW tab (qg3 n) [] Tryz.func112 [.v (.t 0) T108,.obj (.t 1) true 115 1,.fnc (.c 0 0) 66 [.box true 98 1,.box true 41 13],.fnc (.c 1 0) 62 [.al 2],.v (.c 2 0) T41] 2 [[.v (.t 0) T4,.obj (.t 1) true 115 1,.fnc (.c 0 0) 66 [.box true 98 1,.box true 41 13],.fnc (.c 1 0) 62 [.al 2],.v (.c 2 0) T41]] (by kernel_rfl)
noncomputable def qbB(n:Nat):CL Tryz.prog:=⟨[],[qcA n,qcM n,qb9 n],0,nof⟩
def qbC(n:Nat):LK Tryz.prog false:=mkL tab (qbB n) [] Tryz.f146 [true,false,true,false,false] 0 n [.v (.t 0) T39,.v (.t 7) T3,.v (.t 8) T3,.fnc (.t 1) 112 [.box true 115 1],.fnc (.c 0 0) 66 [.box true 98 1,.box true 41 13],.fnc (.c 1 0) 62 [.al 2],.v (.c 2 0) T41] [(.exit 0,[.fnc (.t 1) 112 [.box true 115 1],.fnc (.c 0 0) 66 [.box true 98 1,.box true 41 13],.fnc (.c 1 0) 62 [.al 2],.v (.c 2 0) T41]),(.ret,[.v (.t 4) T3,.fnc (.t 1) 112 [.box true 115 1],.fnc (.c 0 0) 66 [.box true 98 1,.box true 41 13],.fnc (.c 1 0) 62 [.al 2],.v (.c 2 0) T41])] (by kernel_rfl)
def qbE(n:Nat):Cw Tryz.prog:=mkW tab (qbB n) [qbC n] Tryz.func146 [.v (.t 0) T39,.fnc (.t 1) 112 [.box true 115 1],.fnc (.c 0 0) 66 [.box true 98 1,.box true 41 13],.fnc (.c 1 0) 62 [.al 2],.v (.c 2 0) T41] 2 [[.v (.t 0) T3,.obj (.t 1) true 115 1,.fnc (.c 0 0) 66 [.box true 98 1,.box true 41 13],.fnc (.c 1 0) 62 [.al 2],.v (.c 2 0) T41]] (by kernel_rfl)
noncomputable def qdG(n:Nat):CL Tryz.prog:=⟨[],[qcA n,qcM n,qb9 n,qbE n],0,nof⟩
def qbq(n:Nat):Cw Tryz.prog:=mkW tab (qdG n) [] Tryz.func111 [.v (.t 0) T39,.fnc (.t 1) 112 [.box true 115 1],.fnc (.c 0 0) 66 [.box true 98 1,.box true 41 13],.fnc (.c 1 0) 62 [.al 2],.v (.c 2 0) T41] 2 [[.v (.t 0) T4,.obj (.t 1) true 115 1,.fnc (.c 0 0) 66 [.box true 98 1,.box true 41 13],.fnc (.c 1 0) 62 [.al 2],.v (.c 2 0) T41]] (by kernel_rfl)
noncomputable def qhB(n:Nat):CL Tryz.prog:=⟨[],[qcA n,qcM n,qbq n],0,nof⟩
def qeb(n:Nat):Cw Tryz.prog:=mkW tab (qhB n) [] Tryz.func72 [.v (.t 0) T39,.fnc (.t 1) 66 [.box true 98 1,.box true 41 13],.fnc (.c 0 0) 62 [.al 1],.v (.c 1 0) T41] 2 [[.v (.t 0) T4,.obj (.t 1) true 98 1,.obj (.t 2) true 41 13,.fnc (.c 0 0) 62 [.al 1],.v (.c 1 0) T41]] (by kernel_rfl)
noncomputable def qyC(n:Nat):CL Tryz.prog:=⟨[qd3 n,qrE n,qlq n,qhf n],[qkd n,qih n,qgI n,qd6 n,qeb n],0,nof⟩
def quP(n:Nat):Ct Tryz.prog:=mkC tab (qyC n) [] Tryz.func33 [.d T41] [T24] (by kernel_rfl)
noncomputable def qxh(n:Nat):CL Tryz.prog:=⟨[],[],0,nof⟩
def qsK(n:Nat):Cw Tryz.prog:=mkW tab (qxh n) [] Tryz.func89 [.v (.t 0) T91,.obj (.t 1) true 3 1,.v (.c 0 0) T3] 2 [[.v (.t 0) T4,.obj (.t 1) true 3 1,.v (.c 0 0) T3]] (by kernel_rfl)
noncomputable def qfa(n:Nat):CL Tryz.prog:=⟨[],[qsK n],0,nof⟩
def qfb(n:Nat):LK Tryz.prog false:=mkL tab (qfa n) [] Tryz.f58 [true,false,true,false,false] 0 n [.v (.t 0) T35,.v (.t 7) T3,.v (.t 8) T3,.fnc (.t 1) 89 [.box true 3 1],.v (.c 0 0) T3] [(.exit 0,[.fnc (.t 1) 89 [.box true 3 1],.v (.c 0 0) T3]),(.ret,[.v (.t 4) T3,.fnc (.t 1) 89 [.box true 3 1],.v (.c 0 0) T3])] (by kernel_rfl)
def qfo(n:Nat):Cw Tryz.prog:=mkW tab (qfa n) [qfb n] Tryz.func58 [.v (.t 0) T35,.fnc (.t 1) 89 [.box true 3 1],.v (.c 0 0) T3] 2 [[.v (.t 0) T3,.obj (.t 1) true 3 1,.v (.c 0 0) T3]] (by kernel_rfl)
noncomputable def qtx(n:Nat):CL Tryz.prog:=⟨[quP n,qsH n],[qbv n,q8 n,qb8 n,qfo n],0,nof⟩
def qty(n:Nat):LK Tryz.prog false:=mkL tab (qtx n) [] Tryz.f46 [true,true,true,true,false,true,false,false] 0 n [.v (.t 27) T22,.v (.t 28) T3,.v (.t 29) T3,.obj (.t 1) false 41 13,.v (.c 0 0) T41,.obj (.t 5) false 88 14,.v (.c 1 0) T41,.row (.c 1 13) false T91 91] [(.exit 0,[.obj (.t 5) false 88 14,.v (.c 0 0) T41,.row (.c 0 13) false T91 91])] (by kernel_rfl)
def qqI(n:Nat):Cw Tryz.prog:=mkW tab (qtx n) [qty n] Tryz.func46 [.v (.t 0) T41] 1 [[.v (.t 1) T24,.obj (.t 0) false 88 14,.v (.c 0 0) T41,.row (.c 0 13) false T91 91],[.nilp (.t 0),.v (.t 1) T24]] (by kernel_rfl)
noncomputable def qnp(n:Nat):CL Tryz.prog:=⟨[],[],0,nof⟩
def qs1(n:Nat):LK Tryz.prog false:=mkL tab (qnp n) [] Tryz.f90 [true,false,true,false,false] 0 n [.v (.t 1) T3,.v (.t 11) T37,.v (.t 12) T3,.v (.t 13) T3,.obj (.t 0) true 88 14,.v (.c 0 0) T88,.obj (.t 4) false 112 3,.v (.c 1 0) T112] [(.exit 0,[.v (.t 1) T3,.obj (.t 0) true 88 14,.v (.c 0 0) T88,.obj (.t 4) false 112 3,.v (.c 1 0) T112]),(.ret,[.obj (.t 0) true 88 14,.v (.c 0 0) T88,.obj (.t 4) false 112 3,.v (.c 1 0) T112])] (by kernel_rfl)
def qtz(n:Nat):Cw Tryz.prog:=mkW tab (qnp n) [qs1 n] Tryz.func90 [.v (.t 1) T3,.obj (.t 0) true 88 14,.v (.c 0 0) T88] 2 [[.v (.t 0) T112,.obj (.t 1) true 88 14,.v (.c 0 0) T88]] (by kernel_rfl)
noncomputable def qtA(n:Nat):CL Tryz.prog:=⟨[],[],0,nof⟩
def qoQ(n:Nat):Cw Tryz.prog:=mkW tab (qtA n) [] Tryz.func128 [.v (.t 1) T3,.v (.t 2) T3,.obj (.t 0) true 88 14,.v (.c 0 0) T88] 3 [[.v (.t 0) T4,.obj (.t 1) true 88 14,.v (.c 0 0) T88]] (by kernel_rfl)
noncomputable def qqj(n:Nat):CL Tryz.prog:=⟨[],[qoQ n],0,nof⟩
def qhq(n:Nat):Cw Tryz.prog:=mkW tab (qqj n) [] Tryz.func129 [.v (.t 0) T64,.obj (.t 1) true 3 1,.v (.c 0 0) T3,.obj (.t 2) true 83 1,.obj (.c 1 0) true 88 14,.v (.c 2 0) T88,.obj (.t 3) true 3 1,.v (.c 3 0) T3] 4 [[.v (.t 0) T4,.obj (.t 1) true 3 1,.v (.c 0 0) T3,.obj (.t 2) true 83 1,.obj (.c 1 0) true 88 14,.v (.c 2 0) T88,.obj (.t 4) true 3 1,.v (.c 3 0) T3]] (by kernel_rfl)
noncomputable def qdP(n:Nat):CL Tryz.prog:=⟨[],[qhq n],0,nof⟩
def qg4(n:Nat):LK Tryz.prog false:=mkL tab (qdP n) [] Tryz.f145 [true,false,true,false,false] 0 n [.v (.t 0) T38,.v (.t 7) T3,.v (.t 8) T3,.fnc (.t 1) 129 [.box true 3 1,.box true 83 1,.box true 3 1],.v (.c 0 0) T3,.obj (.c 1 0) true 88 14,.v (.c 3 0) T88,.v (.c 2 0) T3] [(.exit 0,[.fnc (.t 1) 129 [.box true 3 1,.box true 83 1,.box true 3 1],.v (.c 0 0) T3,.obj (.c 1 0) true 88 14,.v (.c 3 0) T88,.v (.c 2 0) T3]),(.ret,[.v (.t 4) T3,.fnc (.t 1) 129 [.box true 3 1,.box true 83 1,.box true 3 1],.v (.c 0 0) T3,.obj (.c 1 0) true 88 14,.v (.c 3 0) T88,.v (.c 2 0) T3])] (by kernel_rfl)
def qhr(n:Nat):Cw Tryz.prog:=mkW tab (qdP n) [qg4 n] Tryz.func145 [.v (.t 0) T38,.fnc (.t 1) 129 [.box true 3 1,.box true 83 1,.box true 3 1],.v (.c 0 0) T3,.obj (.c 1 0) true 88 14,.v (.c 3 0) T88,.v (.c 2 0) T3] 2 [[.v (.t 0) T3,.obj (.t 1) true 3 1,.obj (.t 2) true 83 1,.obj (.t 3) true 3 1,.v (.c 0 0) T3,.obj (.c 1 0) true 88 14,.v (.c 3 0) T88,.v (.c 2 0) T3]] (by kernel_rfl)
noncomputable def qgB(n:Nat):CL Tryz.prog:=⟨[],[qhq n,qP n,qhr n],0,nof⟩
def qgK(n:Nat):Cw Tryz.prog:=mkW tab (qgB n) [] Tryz.func109 [.v (.t 0) T38,.fnc (.t 1) 129 [.box true 3 1,.box true 83 1,.box true 3 1],.v (.c 0 0) T3,.obj (.c 1 0) true 88 14,.v (.c 3 0) T88,.v (.c 2 0) T3] 2 [[.v (.t 0) T4,.obj (.t 1) true 3 1,.obj (.t 2) true 83 1,.obj (.t 3) true 3 1,.v (.c 0 0) T3,.obj (.c 1 0) true 88 14,.v (.c 3 0) T88,.v (.c 2 0) T3]] (by kernel_rfl)
noncomputable def qra(n:Nat):CL Tryz.prog:=⟨[],[qN n,qgK n,qoQ n],0,nof⟩
def qrH(n:Nat):Cw Tryz.prog:=mkW tab (qra n) [] Tryz.func91 [.v (.t 1) T3,.v (.t 2) T3,.obj (.t 0) true 88 14,.v (.c 0 0) T88] 3 [[.v (.t 0) T4,.obj (.t 1) true 88 14,.v (.c 0 0) T88]] (by kernel_rfl)
noncomputable def qBz(n:Nat):CL Tryz.prog:=⟨[],[],0,nof⟩
def qur(n:Nat):Ct Tryz.prog:=mkC tab (qBz n) [] Tryz.func92 [.d T3,.d T3] [T3] (by kernel_rfl)
noncomputable def qtB(n:Nat):CL Tryz.prog:=⟨[qur n],[qtz n,qrH n],0,nof⟩
def qus(n:Nat):Cw Tryz.prog:=mkW tab (qtB n) [] Tryz.func50 [.v (.t 1) T91,.v (.t 2) T95,.obj (.t 0) true 88 14,.v (.c 0 0) T88] 3 [[.v (.t 0) T3,.v (.t 1) T3,.obj (.t 2) true 88 14,.v (.c 0 0) T88]] (by kernel_rfl)
end
noncomputable section
noncomputable def qws(n:Nat):CL Tryz.prog:=⟨[qf0 n],[],0,nof⟩
def qnN(n:Nat):Cw Tryz.prog:=mkW tab (qws n) [] Tryz.func99 [.v (.t 0) T3,.v (.t 1) T3,.obj (.t 2) true 3 1,.v (.c 0 0) T3,.obj (.t 3) true 22 1,.v (.c 1 0) T22] 4 [[.v (.t 0) T3,.obj (.t 1) true 3 1,.v (.c 0 0) T3,.obj (.t 2) true 22 1,.v (.c 1 0) T22]] (by kernel_rfl)
noncomputable def qct(n:Nat):CL Tryz.prog:=⟨[],[qnN n],0,nof⟩
def qh4(n:Nat):LK Tryz.prog false:=mkL tab (qct n) [] Tryz.f174 [true,false,false,true,false,false,true,false,false] 1 n [.v (.t 1) T3,.v (.t 2) T3,.v (.t 8) T3,.v (.t 9) T3,.row (.t 0) true T3 3,.fnc (.t 3) 99 [.box true 3 1,.box true 22 1],.v (.c 1 0) T3,.v (.c 2 0) T22] [(.exit 2,[.v (.t 1) T3,.v (.t 2) T3,.v (.t 8) T3,.row (.t 0) true T3 3,.fnc (.t 3) 99 [.box true 3 1,.box true 22 1],.v (.c 1 0) T3,.v (.c 2 0) T22])] (by kernel_rfl)
def qh5(n:Nat):LK Tryz.prog false:=mkL tab (qct n) [qh4 n] Tryz.f174 [true,false,false] 0 n [.v (.t 1) T3,.v (.t 2) T3,.v (.t 8) T3,.row (.t 0) true T3 3,.fnc (.t 3) 99 [.box true 3 1,.box true 22 1],.v (.c 1 0) T3,.v (.c 2 0) T22] [(.exit 0,[.row (.t 0) true T3 3,.fnc (.t 3) 99 [.box true 3 1,.box true 22 1],.v (.c 1 0) T3,.v (.c 2 0) T22])] (by kernel_rfl)
def qii(n:Nat):Cw Tryz.prog:=mkW tab (qct n) [qh5 n] Tryz.func174 [.v (.t 1) T3,.v (.t 2) T3,.row (.t 0) true T3 3,.fnc (.t 3) 99 [.box true 3 1,.box true 22 1],.v (.c 1 0) T3,.v (.c 2 0) T22] 4 [[.row (.t 0) true T3 3,.obj (.t 1) true 3 1,.obj (.t 2) true 22 1,.v (.c 1 0) T3,.v (.c 2 0) T22]] (by kernel_rfl)
noncomputable def qb2(n:Nat):CL Tryz.prog:=⟨[],[qnN n,qii n],0,nof⟩
def qke(n:Nat):LK Tryz.prog false:=mkL tab (qb2 n) [] Tryz.f132 [true,true,false,false,false] 0 n [.v (.t 1) T3,.v (.t 6) T3,.v (.t 7) T3,.v (.t 8) T3,.row (.t 0) true T3 3,.fnc (.t 2) 99 [.box true 3 1,.box true 22 1],.v (.c 1 0) T3,.v (.c 2 0) T22] [(.exit 0,[.v (.t 1) T3,.v (.t 6) T3,.v (.t 7) T3,.row (.t 0) true T3 3,.fnc (.t 2) 99 [.box true 3 1,.box true 22 1],.v (.c 1 0) T3,.v (.c 2 0) T22])] (by kernel_rfl)
def qkf(n:Nat):LK Tryz.prog false:=mkL tab (qb2 n) [] Tryz.f132 [true,true,true,true,false,false,true,false,true,false,false,false] 2 n [.v (.t 1) T3,.v (.t 6) T3,.v (.t 7) T3,.v (.t 8) T3,.row (.t 0) true T3 3,.fnc (.t 2) 99 [.box true 3 1,.box true 22 1],.v (.c 1 0) T3,.v (.c 2 0) T22] [(.exit 4,[.v (.t 1) T3,.v (.t 6) T3,.v (.t 7) T3,.row (.t 0) true T3 3,.fnc (.t 2) 99 [.box true 3 1,.box true 22 1],.v (.c 1 0) T3,.v (.c 2 0) T22])] (by kernel_rfl)
def qkg(n:Nat):LK Tryz.prog false:=mkL tab (qb2 n) [qkf n] Tryz.f132 [true,true,true,true,false,false] 1 n [.v (.t 1) T3,.v (.t 6) T3,.row (.t 0) true T3 3,.fnc (.t 2) 99 [.box true 3 1,.box true 22 1],.v (.c 1 0) T3,.v (.c 2 0) T22] [(.exit 2,[.row (.t 0) true T3 3,.fnc (.t 2) 99 [.box true 3 1,.box true 22 1],.v (.c 1 0) T3,.v (.c 2 0) T22])] (by kernel_rfl)
def qkv(n:Nat):Cw Tryz.prog:=mkW tab (qb2 n) [qke n,qkg n] Tryz.func132 [.v (.t 1) T3,.row (.t 0) true T3 3,.fnc (.t 2) 99 [.box true 3 1,.box true 22 1],.v (.c 1 0) T3,.v (.c 2 0) T22] 3 [[.row (.t 0) true T3 3,.obj (.t 1) true 3 1,.obj (.t 2) true 22 1,.v (.c 1 0) T3,.v (.c 2 0) T22]] (by kernel_rfl)
noncomputable def qjX(n:Nat):CL Tryz.prog:=⟨[],[qnN n,qkv n],0,nof⟩
def qkh(n:Nat):Cw Tryz.prog:=mkW tab (qjX n) [] Tryz.func98 [.row (.t 0) true T3 3,.fnc (.t 1) 99 [.box true 3 1,.box true 22 1],.v (.c 1 0) T3,.v (.c 2 0) T22] 2 [[.row (.t 0) true T3 3,.obj (.t 1) true 3 1,.obj (.t 2) true 22 1,.v (.c 1 0) T3,.v (.c 2 0) T22]] (by kernel_rfl)
noncomputable def qpR(n:Nat):CL Tryz.prog:=⟨[],[qkh n],0,nof⟩
def qyD(n:Nat):LK Tryz.prog false:=mkL tab (qpR n) [] Tryz.f56 [true,true,true,true,false,true,false,false] 0 n [.v (.t 7) T3,.v (.t 19) T22,.v (.t 20) T3,.v (.t 21) T3,.obj (.t 2) false 3 1,.v (.c 0 0) T3,.obj (.t 3) false 22 1,.v (.c 1 0) T22,.row (.t 5) false T3 3,.row (.t 6) false T3 3] [(.exit 0,[.v (.t 7) T3,.obj (.t 2) false 3 1,.v (.c 0 0) T3,.obj (.t 3) false 22 1,.v (.c 1 0) T22,.row (.t 5) false T3 3,.row (.t 6) false T3 3])] (by kernel_rfl)
def qyE(n:Nat):LK Tryz.prog false:=mkL tab (qpR n) [] Tryz.f56 [true,true,true,true,true,true,false,true,false,false] 1 n [.v (.t 50) T3,.v (.t 51) T3,.row (.t 5) false T3 3,.row (.t 6) false T3 3,.sub (.t 49) 1] [(.exit 2,[.row (.t 5) false T3 3])] (by kernel_rfl)
def quQ(n:Nat):Ct Tryz.prog:=mkC tab (qpR n) [qyD n,qyE n] Tryz.func56 [.d T3,.d T22] [T22] (by kernel_rfl)
noncomputable def qoR(n:Nat):CL Tryz.prog:=⟨[quQ n],[],0,nof⟩
def qut(n:Nat):LK Tryz.prog false:=mkL tab (qoR n) [] Tryz.f60 [true,false,false] 0 n [.v (.t 2) T3,.v (.t 19) T22,.v (.t 20) T3,.v (.t 21) T3,.obj (.t 3) true 83 1,.obj (.c 0 0) true 88 14,.v (.c 1 0) T88,.obj (.t 4) true 22 1,.row (.c 2 0) true T3 3] [(.exit 0,[.obj (.t 3) true 83 1,.obj (.c 0 0) true 88 14,.v (.c 1 0) T88,.obj (.t 4) true 22 1,.row (.c 2 0) true T3 3])] (by kernel_rfl)
def quW(n:Nat):Cw Tryz.prog:=mkW tab (qoR n) [qut n] Tryz.func60 [.v (.t 0) T3,.v (.t 1) T3,.v (.t 2) T3,.obj (.t 3) true 83 1,.obj (.c 0 0) true 88 14,.v (.c 1 0) T88,.obj (.t 4) true 22 1,.row (.c 2 0) true T3 3] 5 [[.obj (.t 0) true 83 1,.obj (.c 0 0) true 88 14,.v (.c 1 0) T88,.obj (.t 2) true 22 1,.row (.c 2 0) true T3 3]] (by kernel_rfl)
noncomputable def qjZ(n:Nat):CL Tryz.prog:=⟨[],[qqI n,qus n,quW n],2,nof⟩
def qwt(n:Nat):LK Tryz.prog false:=mkL tab (qjZ n) [] Tryz.f31 [true,true,true,true,true,true,false,true,false,false,true,true,false,false,true,true,false,false] 1 n [.v (.t 6) T3,.v (.t 7) T3,.v (.t 48) T35,.v (.t 49) T3,.v (.t 50) T3,.v (.t 55) T89,.v (.t 56) T3,.v (.t 57) T3,.obj (.t 4) false 83 1,.obj (.c 0 0) false 88 14,.v (.c 1 0) T88,.obj (.t 8) false 22 1,.row (.c 2 0) false T3 3,.obj (.t 11) false 91 5,.v (.c 4 0) T91,.fnc (.t 9) 60 [.al 0,.al 2]] [(.exit 2,[.v (.t 6) T3,.v (.t 7) T3,.v (.t 48) T35,.v (.t 49) T3,.v (.t 50) T3,.obj (.t 4) false 83 1,.obj (.c 0 0) false 88 14,.v (.c 1 0) T88,.obj (.t 8) false 22 1,.row (.c 2 0) false T3 3,.fnc (.t 9) 60 [.al 0,.al 2]])] (by kernel_rfl)
def qqS(n:Nat):LK Tryz.prog false:=mkL tab (qjZ n) [qwt n] Tryz.f31 [true,true,true,true,true,true,false,true,false,false] 0 n [.v (.t 6) T3,.v (.t 7) T3,.v (.t 48) T35,.v (.t 49) T3,.v (.t 50) T3,.obj (.t 4) false 83 1,.obj (.c 0 0) false 88 14,.v (.c 1 0) T88,.obj (.t 8) false 22 1,.row (.c 2 0) false T3 3,.fnc (.t 9) 60 [.al 0,.al 2]] [(.exit 0,[.obj (.t 4) false 83 1,.obj (.c 0 0) false 88 14,.v (.c 1 0) T88,.obj (.t 8) false 22 1,.row (.c 2 0) false T3 3,.fnc (.t 9) 60 [.al 0,.al 2]])] (by kernel_rfl)
def qqT(n:Nat):LK Tryz.prog false:=mkL tab (qjZ n) [] Tryz.f31 [true,true,true,true,true,true,true,false,true,false,false] 2 n [.v (.t 95) T39,.v (.t 96) T3,.v (.t 97) T3,.obj (.t 4) false 83 1,.obj (.c 0 0) false 88 14,.v (.c 1 0) T88,.obj (.t 8) false 22 1,.row (.c 2 0) false T3 3,.fnc (.t 9) 60 [.al 0,.al 2]] [(.exit 4,[.obj (.t 8) false 22 1,.row (.c 0 0) false T3 3])] (by kernel_rfl)
def qrI(n:Nat):Ct Tryz.prog:=mkC tab (qjZ n) [qqS n,qqT n] Tryz.func31 [.d T41] [T22,T24] (by kernel_rfl)
end
noncomputable section
noncomputable def qs2(n:Nat):CL Tryz.prog:=⟨[],[],0,nof⟩
def qen(n:Nat):Ct Tryz.prog:=mkC tab (qs2 n) [] Tryz.func44 [.d T3,.d T3,.d T3] [T4] (by kernel_rfl)
noncomputable def qlJ(n:Nat):CL Tryz.prog:=⟨[qen n],[],0,nof⟩
def qlK(n:Nat):LK Tryz.prog false:=mkL tab (qlJ n) [] Tryz.f28 [true,true,false,true,false,false] 0 n [.v (.t 0) T22,.v (.t 3) T3,.v (.t 4) T3] [(.exit 0,[.v (.t 0) T22,.v (.t 3) T3]),(.ret,[.v (.t 2) T4])] (by kernel_rfl)
def qmk(n:Nat):Ct Tryz.prog:=mkC tab (qlJ n) [qlK n] Tryz.func28 [.d T22] [T4] (by kernel_rfl)
noncomputable def qs3(n:Nat):CL Tryz.prog:=⟨[qen n],[],0,nof⟩
def qob(n:Nat):Ct Tryz.prog:=mkC tab (qs3 n) [] Tryz.func76 [.d T41,.d T3] [T4] (by kernel_rfl)
noncomputable def qhJ(n:Nat):CL Tryz.prog:=⟨[qen n],[],0,nof⟩
def qlL(n:Nat):LK Tryz.prog false:=mkL tab (qhJ n) [] Tryz.f75 [true,false,true,false,false,true,false,false,true,true,true,false,false] 1 n [.v (.t 3) T3,.v (.t 5) T3,.obj (.t 1) false 41 13,.v (.c 0 0) T41,.obj (.t 4) false 112 3,.v (.c 1 0) T112] [(.exit 2,[.v (.t 3) T3,.obj (.t 1) false 41 13,.v (.c 0 0) T41]),(.ret,[.v (.t 2) T4])] (by kernel_rfl)
def qlM(n:Nat):LK Tryz.prog false:=mkL tab (qhJ n) [qlL n] Tryz.f75 [true,false,true,false,false] 0 n [.v (.t 3) T3,.obj (.t 1) false 41 13,.v (.c 0 0) T41] [(.exit 0,[.obj (.t 1) false 41 13,.v (.c 0 0) T41]),(.ret,[.v (.t 2) T4])] (by kernel_rfl)
def qml(n:Nat):Ct Tryz.prog:=mkC tab (qhJ n) [qlM n] Tryz.func75 [.d T41] [T4] (by kernel_rfl)
noncomputable def qhg(n:Nat):CL Tryz.prog:=⟨[qmk n,qen n,qoD n,qml n,qob n],[],0,nof⟩
def qoc(n:Nat):LK Tryz.prog false:=mkL tab (qhg n) [] Tryz.f34 [true,true,true,false,true,false,false] 0 n [.v (.t 4) T3,.obj (.t 1) false 41 13,.v (.c 0 0) T41] [(.exit 0,[.obj (.t 1) false 41 13,.v (.c 0 0) T41]),(.ret,[.v (.t 2) T24])] (by kernel_rfl)
def qod(n:Nat):LK Tryz.prog false:=mkL tab (qhg n) [] Tryz.f34 [true,true,true,true,false,true,false,false] 1 n [.v (.t 5) T3,.obj (.t 1) false 41 13,.v (.c 0 0) T41] [(.exit 2,[.obj (.t 1) false 41 13,.v (.c 0 0) T41]),(.ret,[.v (.t 2) T24])] (by kernel_rfl)
def qoe(n:Nat):LK Tryz.prog false:=mkL tab (qhg n) [] Tryz.f34 [true,true,true,true,true,false,true,false,false] 2 n [.v (.t 6) T3,.obj (.t 1) false 41 13,.v (.c 0 0) T41] [(.exit 4,[.obj (.t 1) false 41 13,.v (.c 0 0) T41]),(.ret,[.v (.t 2) T24])] (by kernel_rfl)
def qkP(n:Nat):Ct Tryz.prog:=mkC tab (qhg n) [qoc n,qod n,qoe n] Tryz.func34 [.d T41] [T24] (by kernel_rfl)
noncomputable def qoS(n:Nat):CL Tryz.prog:=⟨[qmj n,qpm n],[],0,nof⟩
def qoT(n:Nat):LK Tryz.prog false:=mkL tab (qoS n) [] Tryz.f20 [true,true,true,true,true,true,false,true,false,false] 0 n [.v (.t 4) T3,.obj (.t 1) false 41 13,.v (.c 0 0) T41,.obj (.t 2) false 41 13,.v (.c 1 0) T41,.obj (.t 3) false 41 13,.v (.c 2 0) T34,.v (.c 2 2) T35,.v (.c 2 3) T3,.v (.c 2 4) T22,.row (.c 2 5) false T22 22,.v (.c 2 6) T37,.v (.c 2 7) T38,.v (.c 2 8) T39,.v (.c 2 9) T3,.v (.c 2 10) T3,.v (.c 2 11) T3,.v (.c 2 12) T3] [(.exit 0,[.obj (.t 1) false 41 13,.v (.c 0 0) T41,.obj (.t 2) false 41 13,.v (.c 1 0) T41,.obj (.t 3) false 41 13,.v (.c 2 0) T34,.v (.c 2 2) T35,.v (.c 2 3) T3,.v (.c 2 4) T22,.row (.c 2 5) false T22 22,.v (.c 2 6) T37,.v (.c 2 7) T38,.v (.c 2 8) T39,.v (.c 2 9) T3,.v (.c 2 10) T3,.v (.c 2 11) T3,.v (.c 2 12) T3])] (by kernel_rfl)
def qpr(n:Nat):Ct Tryz.prog:=mkC tab (qoS n) [qoT n] Tryz.func20 [.d T41] [T41] (by kernel_rfl)
noncomputable def qps(n:Nat):CL Tryz.prog:=⟨[qqg n],[],0,nof⟩
def qpt(n:Nat):LK Tryz.prog false:=mkL tab (qps n) [] Tryz.f18 [true,true,false,true,false,false] 0 n [.v (.t 3) T3,.obj (.t 1) false 41 13,.v (.c 0 0) T41] [(.exit 0,[]),(.ret,[.v (.t 2) T4])] (by kernel_rfl)
def qmm(n:Nat):Ct Tryz.prog:=mkC tab (qps n) [qpt n] Tryz.func18 [.d T41] [T4] (by kernel_rfl)
noncomputable def qr9(n:Nat):CL Tryz.prog:=⟨[qsY n],[],0,nof⟩
def qnq(n:Nat):Ct Tryz.prog:=mkC tab (qr9 n) [] Tryz.func38 [] [T41] (by kernel_rfl)
end
end Go.Proofs.YtlmicgmhallkkaaGreatDoor
/- The contract of math/bits.TrailingZeros, by hand: it reads a table that is a package variable. -/
namespace Go.Proofs.YtlmicgmhallkkaaGreatDoor
open Go Go.Proofs Go.RowKit Go.Shelf
set_option maxHeartbeats 800000
attribute [local go_sem] Oper.semAt_some
def tz(s:Nat):Nat:=if s % 2=1 then 0 else if s % 4=2 then 1 else if s % 8=4 then 2 else if s % 16=8 then 3 else if s % 32=16 then 4 else if s % 64=32 then 5 else if s % 128=64 then 6 else 7
theorem qz7(s:Nat):tz s<8:=by unfold tz;repeat' split<;>try omega
def jj(k:Nat):Nat:=2 ^ k*285870213051353865 % 18446744073709551616/288230376151711744
theorem qIo(k:Nat)(hk:k<8):jj k<64:=by revert k;decide +kernel
theorem qHH(s:Nat):s<256→0<s→bits BinOp.and IntKind.u64 (s:Int) (IntKind.u64.wrap (-(s:Int)))=((2 ^ tz s:Nat):Int):=by
 revert s;decide +kernel
theorem qD9(k:Nat):k<8→IntKind.u64.wrap (((2 ^ k:Nat):Int)*285870213051353865)/288230376151711744=((jj k:Nat):Int):=by
 revert k;decide +kernel
theorem qFN(s:Nat)(hs:s<256)(h0:0<s):IntKind.u64.wrap (bits BinOp.and IntKind.u64 (s:Int) (IntKind.u64.wrap (-(s:Int)))*285870213051353865)/288230376151711744=((jj (tz s):Nat):Int):=by
 rw[qHH s hs h0];exact qD9 _ (qz7 s)
def qCV(w:World):Prop:=1<w.heap.size∧∀k,k<8→w.cell? ⟨1,jj k,none⟩=some (.int .u8 (k:Int))
theorem qEa(s k idx:Nat)(w:World)(hs0:((s:Int)==0)=false)
  (hE:IntKind.u64.wrap (bits BinOp.and IntKind.u64 (s:Int) (IntKind.u64.wrap (-(s:Int)))*285870213051353865)/288230376151711744=(idx:Int))
  (hj:idx<64) (hk:k<8) (hc:w.cell? ⟨1,idx,none⟩=some (.int .u8 (k:Int))) :
  Calls Tryz.prog 125 #[.int .u64 s] w fun e w'=>e = .returned (.int .i64 k)∧w=w':=by
 go_enter Tryz.func125,Tryz.ntmps125
 go_wp2_with fail
 go_ret
 exact ⟨rfl,rfl⟩
theorem qFO(s:Nat)(w:World)(hs:s<256)(h0:0<s)(ht:qCV w):Calls Tryz.prog 125 #[.int .u64 s] w fun e w'=>e = .returned (.int .i64 (tz s))∧w=w' :=
 qEa s (tz s) (jj (tz s)) w (by simp;omega) (qFN s hs h0) (qIo (tz s) (qz7 s)) (qz7 s) (ht.2 (tz s) (qz7 s))
theorem qG7(s:Nat)(w:World)(hs:s<256)(h0:0<s)(ht:qCV w):Calls Tryz.prog 84 #[.int .u64 s] w fun e w'=>e = .returned (.int .i64 (tz s))∧w=w':=by
 have hs0:(0:Int)≤s:=by omega
 go_enter Tryz.func84,Tryz.ntmps84
 go_wp2_with (go_at_call 125;refine (qFO _ _ hs h0 ht).mono ?_;rintro e w1 ⟨rfl,rfl⟩)
 go_ret
 exact ⟨rfl,rfl⟩
theorem qEb:∀k,k<8→(1,(jj k,Value.int .u8 (k:Int)))∈gTab
 | 0,_=>List.mem_of_getElem? (i:=0) rfl
 | 1,_=>List.mem_of_getElem? (i:=1) rfl
 | 2,_=>List.mem_of_getElem? (i:=2) rfl
 | 3,_=>List.mem_of_getElem? (i:=3) rfl
 | 4,_=>List.mem_of_getElem? (i:=4) rfl
 | 5,_=>List.mem_of_getElem? (i:=5) rfl
 | 6,_=>List.mem_of_getElem? (i:=6) rfl
 | 7,_=>List.mem_of_getElem? (i:=7) rfl
 | k+8,h=>absurd h (by omega)
theorem qFP{w:World}(h:Gl w):qCV w:=⟨h.lt (qEb 0 (by decide)),fun k hk=>h _ (qEb k hk)⟩
def tzB(x:Int):Bool:=decide (0<x)&&decide (x<256)
noncomputable def tz_M(n:Nat)(x:qfu [.d (.i .u64)]):Option (qR [.i .i64]):=cond (tzB x.1) (some ((tz (Int.toNat x.1):Int),())) none
noncomputable def tz_C(n:Nat):Ct Tryz.prog:=⟨84,[.d (.i .u64)],.ts [.i .i64],tz_M n,fun x y h=>by
 obtain ⟨z,u⟩:=x
 change Int at z
 unfold tz_M at h
 cases hc:tzB z with
 | false=>simp only[hc,cond_false] at h;cases h
 | true =>
  simp only[hc,cond_true] at h
  injection h with h
  subst h
  unfold tzB at hc
  simp only[Bool.and_eq_true,decide_eq_true_eq] at hc
  obtain ⟨s,hs⟩:=Int.eq_ofNat_of_zero_le (show 0≤z by omega)
  subst hs
  refine ⟨enters_of (c:=qv Tryz.f84) Tryz.func84 (by kernel_rfl) (by kernel_rfl),fun w S vs hG hn henc=>?_⟩
  have h0:=henc 0 (.val (.int .u64 s)) rfl
  obtain ⟨v,rfl⟩:∃v,vs = #[v]:=by
   obtain ⟨l⟩:=vs
   match l,hn with
   | [v],_=>exact ⟨v,rfl⟩
  have h1:v = .int .u64 s:=h0.val_eq
  subst h1
  refine (qG7 s w (by omega) (by omega) (qFP hG)).mono fun e w' ⟨e1,e2⟩=>?_
  subst e2
  exact ⟨Ext.refl _,_,e1,.val _⟩⟩
noncomputable section
noncomputable def qij(n:Nat):CL Tryz.prog:=⟨[],[],0,fun _=>false⟩
noncomputable def qmn(n:Nat):Nat→St→PT (DEx×St):=fun _ _=>.fail
theorem qsa(n:Nat):qbg (qij n).c (qv Tryz.f48) 0=[]:=by kernel_rfl
theorem qsb:Tryz.f48.body=some (qv Tryz.f48):=by kernel_rfl
abbrev qik:List It:=[.raw (.t 0)]
abbrev qhK:List (List It):=[[.row (.t 0) false T3 3]]
noncomputable def qgk(n:Nat)(x:qg qik):Option (qbz qhK):=runW tab (qij n) (qmn n) (qv Tryz.f48) qik 1 8 [.tmp 2] qhK x
noncomputable def qsc(n:Nat):Cw Tryz.prog:=⟨48,1,qik,1,qhK,qgk n,fun _ _ h=>qng (B:=tab) (cs:=qij n) (lo:=qmn n) (rs:=[.tmp 2]) Tryz.func48 (by kernel_rfl) qsb (by kernel_rfl) (by decide) (qkN (qsa n) all_nil) h⟩
noncomputable def qkQ(n:Nat):CL Tryz.prog:=⟨[],[],0,fun _=>false⟩
noncomputable def qoU(n:Nat):Nat→St→PT (DEx×St):=fun _ _=>.fail
theorem quX(n:Nat):qbg (qkQ n).c (qv Tryz.f48) 0=[]:=by kernel_rfl
theorem quY:Tryz.f48.body=some (qv Tryz.f48):=by kernel_rfl
abbrev qkR:List It:=[.v (.t 0) T22]
abbrev qhh:List (List It):=[[.row (.t 0) false T3 3]]
noncomputable def qiB(n:Nat)(x:qg qkR):Option (qbz qhh):=runW tab (qkQ n) (qoU n) (qv Tryz.f48) qkR 1 8 [.tmp 2] qhh x
noncomputable def quZ(n:Nat):Cw Tryz.prog:=⟨48,1,qkR,1,qhh,qiB n,fun _ _ h=>qng (B:=tab) (cs:=qkQ n) (lo:=qoU n) (rs:=[.tmp 2]) Tryz.func48 (by kernel_rfl) quY (by kernel_rfl) (by decide) (qkN (quX n) all_nil) h⟩
end
theorem qu0(n:Nat)(c:Nat):qgk n (.slice none 0 c,())=some ([],()):=by kernel_rfl
theorem qu1(n:Nat)(a:Addr)(c:Nat):qgk n (.slice (some a) 0 c,())=some ([],()):=by kernel_rfl
noncomputable def qpu(n:Nat):Cw Tryz.prog:=qCa 48 T3 qhh (qgk n) (qiB n) ([],()) (fun v y m0 h=>(qsc n).okk (x:=(v,())) (y:=y) h m0 (qup m0)) (fun l y m0 h=>(quZ n).okk (x:=(l,())) (y:=y) h m0 (qup m0)) (fun A c=>by cases A with | none=>exact qu0 n c | some a=>exact qu1 n a c)
noncomputable def qu2(n:Nat):=(qpu n).M
noncomputable section
noncomputable def qmZ(n:Nat):CL Tryz.prog:=⟨[],[],0,nof⟩
def qm0(n:Nat):LK Tryz.prog false:=mkL tab (qmZ n) [] Tryz.f90 [true,false,true,false,false] 0 n [.v (.t 1) T3,.v (.t 11) T37,.v (.t 12) T3,.v (.t 13) T3,.obj (.t 0) true 88 14,.v (.c 0 0) T34,.v (.c 0 2) T35,.v (.c 0 3) T3,.row (.c 0 4) true T3 3,.v (.c 0 5) T36,.v (.c 0 6) T37,.v (.c 0 7) T38,.v (.c 0 8) T39,.v (.c 0 9) T3,.v (.c 0 10) T3,.v (.c 0 11) T3,.v (.c 0 12) T3,.v (.c 0 13) T35,.obj (.t 4) false 112 3,.v (.c 2 0) T112] [(.exit 0,[.v (.t 1) T3,.obj (.t 0) true 88 14,.v (.c 0 0) T34,.v (.c 0 2) T35,.v (.c 0 3) T3,.row (.c 0 4) true T3 3,.v (.c 0 5) T36,.v (.c 0 6) T37,.v (.c 0 7) T38,.v (.c 0 8) T39,.v (.c 0 9) T3,.v (.c 0 10) T3,.v (.c 0 11) T3,.v (.c 0 12) T3,.v (.c 0 13) T35,.obj (.t 4) false 112 3,.v (.c 2 0) T112]),(.ret,[.obj (.t 0) true 88 14,.v (.c 0 0) T34,.v (.c 0 2) T35,.v (.c 0 3) T3,.row (.c 0 4) true T3 3,.v (.c 0 5) T36,.v (.c 0 6) T37,.v (.c 0 7) T38,.v (.c 0 8) T39,.v (.c 0 9) T3,.v (.c 0 10) T3,.v (.c 0 11) T3,.v (.c 0 12) T3,.v (.c 0 13) T35,.obj (.t 4) false 112 3,.v (.c 2 0) T112])] (by kernel_rfl)
def qnr(n:Nat):Cw Tryz.prog:=mkW tab (qmZ n) [qm0 n] Tryz.func90 [.v (.t 1) T3,.obj (.t 0) true 88 14,.v (.c 0 0) T34,.v (.c 0 2) T35,.v (.c 0 3) T3,.row (.c 0 4) true T3 3,.v (.c 0 5) T36,.v (.c 0 6) T37,.v (.c 0 7) T38,.v (.c 0 8) T39,.v (.c 0 9) T3,.v (.c 0 10) T3,.v (.c 0 11) T3,.v (.c 0 12) T3,.v (.c 0 13) T35] 2 [[.v (.t 0) T112,.obj (.t 1) true 88 14,.v (.c 0 0) T34,.v (.c 0 2) T35,.v (.c 0 3) T3,.row (.c 0 4) true T3 3,.v (.c 0 5) T36,.v (.c 0 6) T37,.v (.c 0 7) T38,.v (.c 0 8) T39,.v (.c 0 9) T3,.v (.c 0 10) T3,.v (.c 0 11) T3,.v (.c 0 12) T3,.v (.c 0 13) T35]] (by kernel_rfl)
noncomputable def qs4(n:Nat):CL Tryz.prog:=⟨[],[],0,nof⟩
def qki(n:Nat):Cw Tryz.prog:=mkW tab (qs4 n) [] Tryz.func128 [.v (.t 1) T3,.v (.t 2) T3,.obj (.t 0) true 88 14,.v (.c 0 0) T34,.v (.c 0 2) T35,.v (.c 0 3) T3,.row (.c 0 4) true T3 3,.v (.c 0 5) T36,.v (.c 0 6) T37,.v (.c 0 7) T38,.v (.c 0 8) T39,.v (.c 0 9) T3,.v (.c 0 10) T3,.v (.c 0 11) T3,.v (.c 0 12) T3,.v (.c 0 13) T35] 3 [[.v (.t 0) T4,.obj (.t 1) true 88 14,.v (.c 0 0) T34,.v (.c 0 2) T35,.v (.c 0 3) T3,.row (.c 0 4) true T3 3,.v (.c 0 5) T36,.v (.c 0 6) T37,.v (.c 0 7) T38,.v (.c 0 8) T39,.v (.c 0 9) T3,.v (.c 0 10) T3,.v (.c 0 11) T3,.v (.c 0 12) T3,.v (.c 0 13) T35]] (by kernel_rfl)
noncomputable def qpS(n:Nat):CL Tryz.prog:=⟨[],[qki n],0,nof⟩
def qgZ(n:Nat):Cw Tryz.prog:=mkW tab (qpS n) [] Tryz.func129 [.v (.t 0) T64,.obj (.t 1) true 3 1,.v (.c 0 0) T3,.obj (.t 2) true 83 1,.obj (.c 1 0) true 88 14,.v (.c 2 0) T34,.v (.c 2 2) T35,.v (.c 2 3) T3,.row (.c 2 4) true T3 3,.v (.c 2 5) T36,.v (.c 2 6) T37,.v (.c 2 7) T38,.v (.c 2 8) T39,.v (.c 2 9) T3,.v (.c 2 10) T3,.v (.c 2 11) T3,.v (.c 2 12) T3,.v (.c 2 13) T35,.obj (.t 3) true 3 1,.v (.c 4 0) T3] 4 [[.v (.t 0) T4,.obj (.t 1) true 3 1,.v (.c 0 0) T3,.obj (.t 2) true 83 1,.obj (.c 1 0) true 88 14,.v (.c 2 0) T34,.v (.c 2 2) T35,.v (.c 2 3) T3,.row (.c 2 4) true T3 3,.v (.c 2 5) T36,.v (.c 2 6) T37,.v (.c 2 7) T38,.v (.c 2 8) T39,.v (.c 2 9) T3,.v (.c 2 10) T3,.v (.c 2 11) T3,.v (.c 2 12) T3,.v (.c 2 13) T35,.obj (.t 5) true 3 1,.v (.c 4 0) T3]] (by kernel_rfl)
noncomputable def qdH(n:Nat):CL Tryz.prog:=⟨[],[qgZ n],0,nof⟩
def qdI(n:Nat):LK Tryz.prog false:=mkL tab (qdH n) [] Tryz.f145 [true,false,true,false,false] 0 n [.v (.t 0) T38,.v (.t 7) T3,.v (.t 8) T3,.fnc (.t 1) 129 [.box true 3 1,.box true 83 1,.box true 3 1],.v (.c 0 0) T3,.obj (.c 1 0) true 88 14,.v (.c 3 0) T34,.v (.c 3 2) T35,.v (.c 3 3) T3,.row (.c 3 4) true T3 3,.v (.c 3 5) T36,.v (.c 3 6) T37,.v (.c 3 7) T38,.v (.c 3 8) T39,.v (.c 3 9) T3,.v (.c 3 10) T3,.v (.c 3 11) T3,.v (.c 3 12) T3,.v (.c 3 13) T35,.v (.c 2 0) T3] [(.exit 0,[.fnc (.t 1) 129 [.box true 3 1,.box true 83 1,.box true 3 1],.v (.c 0 0) T3,.obj (.c 1 0) true 88 14,.v (.c 3 0) T34,.v (.c 3 2) T35,.v (.c 3 3) T3,.row (.c 3 4) true T3 3,.v (.c 3 5) T36,.v (.c 3 6) T37,.v (.c 3 7) T38,.v (.c 3 8) T39,.v (.c 3 9) T3,.v (.c 3 10) T3,.v (.c 3 11) T3,.v (.c 3 12) T3,.v (.c 3 13) T35,.v (.c 2 0) T3]),(.ret,[.v (.t 4) T3,.fnc (.t 1) 129 [.box true 3 1,.box true 83 1,.box true 3 1],.v (.c 0 0) T3,.obj (.c 1 0) true 88 14,.v (.c 3 0) T34,.v (.c 3 2) T35,.v (.c 3 3) T3,.row (.c 3 4) true T3 3,.v (.c 3 5) T36,.v (.c 3 6) T37,.v (.c 3 7) T38,.v (.c 3 8) T39,.v (.c 3 9) T3,.v (.c 3 10) T3,.v (.c 3 11) T3,.v (.c 3 12) T3,.v (.c 3 13) T35,.v (.c 2 0) T3])] (by kernel_rfl)
def qdQ(n:Nat):Cw Tryz.prog:=mkW tab (qdH n) [qdI n] Tryz.func145 [.v (.t 0) T38,.fnc (.t 1) 129 [.box true 3 1,.box true 83 1,.box true 3 1],.v (.c 0 0) T3,.obj (.c 1 0) true 88 14,.v (.c 3 0) T34,.v (.c 3 2) T35,.v (.c 3 3) T3,.row (.c 3 4) true T3 3,.v (.c 3 5) T36,.v (.c 3 6) T37,.v (.c 3 7) T38,.v (.c 3 8) T39,.v (.c 3 9) T3,.v (.c 3 10) T3,.v (.c 3 11) T3,.v (.c 3 12) T3,.v (.c 3 13) T35,.v (.c 2 0) T3] 2 [[.v (.t 0) T3,.obj (.t 1) true 3 1,.obj (.t 2) true 83 1,.obj (.t 3) true 3 1,.v (.c 0 0) T3,.obj (.c 1 0) true 88 14,.v (.c 3 0) T34,.v (.c 3 2) T35,.v (.c 3 3) T3,.row (.c 3 4) true T3 3,.v (.c 3 5) T36,.v (.c 3 6) T37,.v (.c 3 7) T38,.v (.c 3 8) T39,.v (.c 3 9) T3,.v (.c 3 10) T3,.v (.c 3 11) T3,.v (.c 3 12) T3,.v (.c 3 13) T35,.v (.c 2 0) T3]] (by kernel_rfl)
noncomputable def qgq(n:Nat):CL Tryz.prog:=⟨[],[qhq n,qgZ n,qdQ n],0,nof⟩
def qdl(n:Nat):Cw Tryz.prog:=mkW tab (qgq n) [] Tryz.func109 [.v (.t 0) T38,.fnc (.t 1) 129 [.box true 3 1,.box true 83 1,.box true 3 1],.v (.c 0 0) T3,.obj (.c 1 0) true 88 14,.v (.c 3 0) T34,.v (.c 3 2) T35,.v (.c 3 3) T3,.row (.c 3 4) true T3 3,.v (.c 3 5) T36,.v (.c 3 6) T37,.v (.c 3 7) T38,.v (.c 3 8) T39,.v (.c 3 9) T3,.v (.c 3 10) T3,.v (.c 3 11) T3,.v (.c 3 12) T3,.v (.c 3 13) T35,.v (.c 2 0) T3] 2 [[.v (.t 0) T4,.obj (.t 1) true 3 1,.obj (.t 2) true 83 1,.obj (.t 3) true 3 1,.v (.c 0 0) T3,.obj (.c 1 0) true 88 14,.v (.c 3 0) T34,.v (.c 3 2) T35,.v (.c 3 3) T3,.row (.c 3 4) true T3 3,.v (.c 3 5) T36,.v (.c 3 6) T37,.v (.c 3 7) T38,.v (.c 3 8) T39,.v (.c 3 9) T3,.v (.c 3 10) T3,.v (.c 3 11) T3,.v (.c 3 12) T3,.v (.c 3 13) T35,.v (.c 2 0) T3]] (by kernel_rfl)
noncomputable def qqJ(n:Nat):CL Tryz.prog:=⟨[],[qdl n,qki n],0,nof⟩
def qlN(n:Nat):Cw Tryz.prog:=mkW tab (qqJ n) [] Tryz.func91 [.v (.t 1) T3,.v (.t 2) T3,.obj (.t 0) true 88 14,.v (.c 0 0) T34,.v (.c 0 2) T35,.v (.c 0 3) T3,.row (.c 0 4) true T3 3,.v (.c 0 5) T36,.v (.c 0 6) T37,.v (.c 0 7) T38,.v (.c 0 8) T39,.v (.c 0 9) T3,.v (.c 0 10) T3,.v (.c 0 11) T3,.v (.c 0 12) T3,.v (.c 0 13) T35] 3 [[.v (.t 0) T4,.obj (.t 1) true 88 14,.v (.c 0 0) T34,.v (.c 0 2) T35,.v (.c 0 3) T3,.row (.c 0 4) true T3 3,.v (.c 0 5) T36,.v (.c 0 6) T37,.v (.c 0 7) T38,.v (.c 0 8) T39,.v (.c 0 9) T3,.v (.c 0 10) T3,.v (.c 0 11) T3,.v (.c 0 12) T3,.v (.c 0 13) T35]] (by kernel_rfl)
noncomputable def qs5(n:Nat):CL Tryz.prog:=⟨[qur n],[qnr n,qlN n],0,nof⟩
def qof(n:Nat):Cw Tryz.prog:=mkW tab (qs5 n) [] Tryz.func50 [.v (.t 1) T91,.v (.t 2) T95,.obj (.t 0) true 88 14,.v (.c 0 0) T34,.v (.c 0 2) T35,.v (.c 0 3) T3,.row (.c 0 4) true T3 3,.v (.c 0 5) T36,.v (.c 0 6) T37,.v (.c 0 7) T38,.v (.c 0 8) T39,.v (.c 0 9) T3,.v (.c 0 10) T3,.v (.c 0 11) T3,.v (.c 0 12) T3,.v (.c 0 13) T35] 3 [[.v (.t 0) T3,.v (.t 1) T3,.obj (.t 2) true 88 14,.v (.c 0 0) T34,.v (.c 0 2) T35,.v (.c 0 3) T3,.row (.c 0 4) true T3 3,.v (.c 0 5) T36,.v (.c 0 6) T37,.v (.c 0 7) T38,.v (.c 0 8) T39,.v (.c 0 9) T3,.v (.c 0 10) T3,.v (.c 0 11) T3,.v (.c 0 12) T3,.v (.c 0 13) T35]] (by kernel_rfl)
noncomputable def qmo(n:Nat):CL Tryz.prog:=⟨[],[qof n],0,nof⟩
def qqk(n:Nat):LK Tryz.prog false:=mkL tab (qmo n) [] Tryz.f49 [true,true,true,false,true,false,false,true,true,false,false,true,true,false,false] 1 n [.v (.t 6) T3,.v (.t 24) T35,.v (.t 25) T3,.v (.t 26) T3,.v (.t 31) T89,.v (.t 32) T3,.v (.t 33) T3,.obj (.t 1) true 83 1,.obj (.c 0 0) true 88 14,.v (.c 1 0) T34,.v (.c 1 2) T35,.v (.c 1 3) T3,.row (.c 1 4) true T3 3,.v (.c 1 5) T36,.v (.c 1 6) T37,.v (.c 1 7) T38,.v (.c 1 8) T39,.v (.c 1 9) T3,.v (.c 1 10) T3,.v (.c 1 11) T3,.v (.c 1 12) T3,.v (.c 1 13) T35,.obj (.t 2) true 3 1,.v (.c 3 0) T3,.obj (.t 3) true 3 1,.v (.c 4 0) T3,.obj (.t 8) false 91 5,.v (.c 5 0) T91] [(.exit 2,[.v (.t 6) T3,.v (.t 24) T35,.v (.t 25) T3,.v (.t 26) T3,.obj (.t 1) true 83 1,.obj (.c 0 0) true 88 14,.v (.c 1 0) T34,.v (.c 1 2) T35,.v (.c 1 3) T3,.row (.c 1 4) true T3 3,.v (.c 1 5) T36,.v (.c 1 6) T37,.v (.c 1 7) T38,.v (.c 1 8) T39,.v (.c 1 9) T3,.v (.c 1 10) T3,.v (.c 1 11) T3,.v (.c 1 12) T3,.v (.c 1 13) T35,.obj (.t 2) true 3 1,.v (.c 3 0) T3,.obj (.t 3) true 3 1,.v (.c 4 0) T3])] (by kernel_rfl)
def qql(n:Nat):LK Tryz.prog false:=mkL tab (qmo n) [qqk n] Tryz.f49 [true,true,true,false,true,false,false] 0 n [.v (.t 6) T3,.v (.t 24) T35,.v (.t 25) T3,.v (.t 26) T3,.obj (.t 1) true 83 1,.obj (.c 0 0) true 88 14,.v (.c 1 0) T34,.v (.c 1 2) T35,.v (.c 1 3) T3,.row (.c 1 4) true T3 3,.v (.c 1 5) T36,.v (.c 1 6) T37,.v (.c 1 7) T38,.v (.c 1 8) T39,.v (.c 1 9) T3,.v (.c 1 10) T3,.v (.c 1 11) T3,.v (.c 1 12) T3,.v (.c 1 13) T35,.obj (.t 2) true 3 1,.v (.c 3 0) T3,.obj (.t 3) true 3 1,.v (.c 4 0) T3] [(.exit 0,[.v (.t 6) T3,.obj (.t 1) true 83 1,.obj (.c 0 0) true 88 14,.v (.c 1 0) T34,.v (.c 1 2) T35,.v (.c 1 3) T3,.row (.c 1 4) true T3 3,.v (.c 1 5) T36,.v (.c 1 6) T37,.v (.c 1 7) T38,.v (.c 1 8) T39,.v (.c 1 9) T3,.v (.c 1 10) T3,.v (.c 1 11) T3,.v (.c 1 12) T3,.v (.c 1 13) T35,.obj (.t 2) true 3 1,.v (.c 3 0) T3,.obj (.t 3) true 3 1,.v (.c 4 0) T3])] (by kernel_rfl)
def qqU(n:Nat):Cw Tryz.prog:=mkW tab (qmo n) [qql n] Tryz.func49 [.v (.t 0) T3,.obj (.t 1) true 83 1,.obj (.c 0 0) true 88 14,.v (.c 1 0) T34,.v (.c 1 2) T35,.v (.c 1 3) T3,.row (.c 1 4) true T3 3,.v (.c 1 5) T36,.v (.c 1 6) T37,.v (.c 1 7) T38,.v (.c 1 8) T39,.v (.c 1 9) T3,.v (.c 1 10) T3,.v (.c 1 11) T3,.v (.c 1 12) T3,.v (.c 1 13) T35,.obj (.t 2) true 3 1,.v (.c 3 0) T3,.obj (.t 3) true 3 1,.v (.c 4 0) T3] 4 [[.v (.t 0) T4,.obj (.t 1) true 83 1,.obj (.c 0 0) true 88 14,.v (.c 1 0) T34,.v (.c 1 2) T35,.v (.c 1 3) T3,.row (.c 1 4) true T3 3,.v (.c 1 5) T36,.v (.c 1 6) T37,.v (.c 1 7) T38,.v (.c 1 8) T39,.v (.c 1 9) T3,.v (.c 1 10) T3,.v (.c 1 11) T3,.v (.c 1 12) T3,.v (.c 1 13) T35,.obj (.t 4) true 3 1,.v (.c 3 0) T3,.obj (.t 5) true 3 1,.v (.c 4 0) T3]] (by kernel_rfl)
noncomputable def qtC(n:Nat):CL Tryz.prog:=⟨[qd3 n],[qqI n,qpu n,qqU n],2,nof⟩
def qtD(n:Nat):LK Tryz.prog false:=mkL tab (qtC n) [] Tryz.f19 [true,true,true,true,true,true,true,true,false,false,false] 0 n [.v (.t 11) T3,.v (.t 12) T3,.obj (.t 4) false 3 1,.v (.c 0 0) T3,.obj (.t 5) false 3 1,.v (.c 1 0) T3,.obj (.t 8) false 83 1,.obj (.c 2 0) false 88 14,.v (.c 3 0) T34,.v (.c 3 2) T35,.v (.c 3 3) T3,.row (.c 3 4) false T3 3,.v (.c 3 5) T36,.v (.c 3 6) T37,.v (.c 3 7) T38,.v (.c 3 8) T39,.v (.c 3 9) T3,.v (.c 3 10) T3,.v (.c 3 11) T3,.v (.c 3 12) T3,.v (.c 3 13) T35,.fnc (.t 10) 49 [.al 2,.al 0,.al 1]] [(.exit 0,[.v (.t 12) T3])] (by kernel_rfl)
def qnG(n:Nat):Ct Tryz.prog:=mkC tab (qtC n) [qtD n] Tryz.func19 [.d T41,.d T3,.d T3] [T3,T24] (by kernel_rfl)
end
noncomputable section
noncomputable def qtE(n:Nat):CL Tryz.prog:=⟨[qd3 n],[],0,nof⟩
def qyF(n:Nat):LK Tryz.prog false:=mkL tab (qtE n) [] Tryz.f40 [true,true,true,false,true,false,false] 0 n [.v (.t 0) T22,.v (.t 4) T3,.v (.t 10) T22,.v (.t 11) T3,.v (.t 12) T3] [(.exit 0,[.v (.t 0) T22,.v (.t 4) T3]),(.ret,[.v (.t 2) T72,.v (.t 3) T24])] (by kernel_rfl)
def qzV(n:Nat):Ct Tryz.prog:=mkC tab (qtE n) [qyF n] Tryz.func40 [.d T22] [T72,T24] (by kernel_rfl)
noncomputable def qoV(n:Nat):CL Tryz.prog:=⟨[],[],0,nof⟩
def quu(n:Nat):LK Tryz.prog false:=mkL tab (qoV n) [] Tryz.f42 [true,false,true,false,false] 0 n [.v (.t 2) T70,.v (.t 5) T72,.v (.t 6) T3,.v (.t 7) T3] [(.exit 0,[.v (.t 2) T70])] (by kernel_rfl)
def qu3(n:Nat):Ct Tryz.prog:=mkC tab (qoV n) [quu n] Tryz.func42 [.d T72] [T70] (by kernel_rfl)
noncomputable def qpv(n:Nat):CL Tryz.prog:=⟨[tz_C n],[],0,nof⟩
def qu4(n:Nat):LK Tryz.prog false:=mkL tab (qpv n) [] Tryz.f83 [true,false,false,false] 0 n [.v (.t 0) T72,.v (.t 1) T70,.v (.t 4) T3] [(.exit 0,[.v (.t 4) T3])] (by kernel_rfl)
def qvN(n:Nat):Ct Tryz.prog:=mkC tab (qpv n) [qu4 n] Tryz.func83 [.d T72,.d T70] [T3] (by kernel_rfl)
abbrev qr:List It:=[.v (.t 0) T70,.obj (.t 1) true 133 1,.mpi (.c 0 0) true T70 T75,.obj (.t 2) true 72 1,.v (.c 2 0) T72,.obj (.t 3) true 76 1,.fnc (.c 3 0) 82 [.al 0,.al 2,.al 3]]
abbrev qq:List (List It):=[[.v (.t 0) T75,.obj (.t 1) true 133 1,.mpi (.c 0 0) true T70 T75,.obj (.t 3) true 72 1,.v (.c 2 0) T72,.obj (.t 4) true 76 1,.fnc (.c 3 0) 82 [.al 0,.al 2,.al 3]]]
abbrev qh:Type:={g:qg qr→Option (qbz qq) // qsD Tryz.prog 82 4 qr 1 qq g}
noncomputable def qM(n:Nat)(g:qh):CL Tryz.prog:=⟨[qvN n],[⟨82,4,qr,1,qq,g.1,g.2⟩],0,fun _=>false⟩
noncomputable def qeC(n:Nat)(g:qh):Nat→St→PT (DEx×St):=fun _ _=>.fail
abbrev qX:List It:=[.v (.t 0) T70,.v (.t 8) T70,.v (.t 9) T70,.v (.t 11) T70,.obj (.t 1) true 133 1,.mpi (.c 0 0) true T70 T75,.obj (.t 2) true 72 1,.v (.c 2 0) T72,.obj (.t 3) true 76 1,.fnc (.c 3 0) 82 [.al 0,.al 2,.al 3],.row (.t 10) false T70 70]
abbrev qbw:List (DEx×List It):=[(.exit 0,[.v (.t 0) T70,.obj (.t 1) true 133 1,.mpi (.c 0 0) true T70 T75,.obj (.t 2) true 72 1,.v (.c 2 0) T72,.obj (.t 3) true 76 1,.fnc (.c 3 0) 82 [.al 0,.al 2,.al 3],.row (.t 10) false T70 70])]
noncomputable def qiG(n:Nat)(g:qh)(rec:qg qX→Option (qbA qbw))(s:qg qX):Option (qbA qbw):=(qfO tab (qM n g) (qeC n g) (subC [true,true,true,true,true,false,true,false,false] (qv Tryz.f82)) 1 (mkS qX 62 s)).run (Lp.leaf 62 qX qbw rec)
noncomputable def qcH(n:Nat)(g:qh):Lp:=⟨62,qX,qbw,qb n (qiG n g)⟩
theorem qiH(n:Nat)(g:qh):qbg (qM n g).c (subC [true,true,true,true,true,false,true,false,false] (qv Tryz.f82)) 1=[]:=by kernel_rfl
theorem qhL(n:Nat)(g:qh)(st:St)(r:DEx×St)(h:((qcH n g).go st).Is r):DA Tryz.prog false (.loop (subC [true,true,true,true,true,false,true,false,false] (qv Tryz.f82))) st r:=Lp.ok (L:=qcH n g) (B:=tab) (cs:=qM n g) (lo:=qeC n g) (id:=0) rfl (qkN (qiH n g) all_nil) (fun _ _=>rfl) h
noncomputable def qeI(n:Nat)(g:qh):Nat→St→PT (DEx×St):=fun k st=>match k with
 | 0=>(qcH n g).go st
 | _=>.fail
theorem qiO(n:Nat)(g:qh):qbg (qM n g).c (qv Tryz.f82) 0=[(0,.loop (subC [true,true,true,true,true,false,true,false,false] (qv Tryz.f82)))]:=by kernel_rfl
theorem qiP:Tryz.f82.body=some (qv Tryz.f82):=by kernel_rfl
noncomputable def qeJ(n:Nat)(g:qh)(x:qg qr):Option (qbz qq):=runW tab (qM n g) (qeI n g) (qv Tryz.f82) qr 4 62 [.tmp 5] qq x
theorem qiI(n:Nat)(g:qh):qsD Tryz.prog 82 4 qr 1 qq (qeJ n g):=fun _ _ h=>qng (B:=tab) (cs:=qM n g) (lo:=qeI n g) (rs:=[.tmp 5]) Tryz.func82 (by kernel_rfl) qiP (by kernel_rfl) (by decide) (qkN (qiO n g) (all_cons (fun st r h=>qhL n g st r h) all_nil)) h
noncomputable def qbG(n:Nat):Nat→qh
 | 0=>⟨fun _=>none,fun _ _ h=>by cases h⟩
 | k+1=>⟨qeJ n (qbG n k),qiI n (qbG n k)⟩
noncomputable def qiQ(n:Nat)(x:qg qr):Option (qbz qq):=(qbG n n).1 x
noncomputable def qiR(n:Nat):Cw Tryz.prog:=⟨82,4,qr,1,qq,qiQ n,(qbG n n).2⟩
noncomputable def qs6(n:Nat):CL Tryz.prog:=⟨[],[qiR n],0,nof⟩
def qtF(n:Nat):Ct Tryz.prog:=mkC tab (qs6 n) [] Tryz.func41 [.d T72,.d T70] [T75] (by kernel_rfl)
noncomputable def qyG(n:Nat):CL Tryz.prog:=⟨[qf0 n],[],0,nof⟩
def qqK(n:Nat):Ct Tryz.prog:=mkC tab (qyG n) [] Tryz.func86 [.d T138,.d T138] [T3] (by kernel_rfl)
noncomputable def qbY(n:Nat):CL Tryz.prog:=⟨[qqK n],[],0,nof⟩
def qg5(n:Nat):LK Tryz.prog false:=mkL tab (qbY n) [] Tryz.f171 [true,false,false,true,false,false,true,false,false] 1 n [.v (.t 1) T3,.v (.t 2) T3,.fn (.t 3) 86 [] [],.v (.t 8) T3,.v (.t 9) T3,.row (.t 0) true T138 138] [(.exit 2,[.v (.t 1) T3,.v (.t 2) T3,.fn (.t 3) 86 [] [],.v (.t 8) T3,.row (.t 0) true T138 138])] (by kernel_rfl)
def qg6(n:Nat):LK Tryz.prog false:=mkL tab (qbY n) [qg5 n] Tryz.f171 [true,false,false] 0 n [.v (.t 1) T3,.v (.t 2) T3,.fn (.t 3) 86 [] [],.v (.t 8) T3,.row (.t 0) true T138 138] [(.exit 0,[.row (.t 0) true T138 138])] (by kernel_rfl)
def qhs(n:Nat):Cw Tryz.prog:=mkW tab (qbY n) [qg6 n] Tryz.func171 [.v (.t 1) T3,.v (.t 2) T3,.fn (.t 3) 86 [] [],.row (.t 0) true T138 138] 4 [[.row (.t 0) true T138 138]] (by kernel_rfl)
noncomputable def qbH(n:Nat):CL Tryz.prog:=⟨[qqK n],[qhs n],0,nof⟩
def qiS(n:Nat):LK Tryz.prog false:=mkL tab (qbH n) [] Tryz.f126 [true,true,false,false,false] 0 n [.v (.t 1) T3,.fn (.t 2) 86 [] [],.v (.t 6) T3,.v (.t 7) T3,.v (.t 8) T3,.row (.t 0) true T138 138] [(.exit 0,[.v (.t 1) T3,.fn (.t 2) 86 [] [],.v (.t 6) T3,.v (.t 7) T3,.row (.t 0) true T138 138])] (by kernel_rfl)
def qiT(n:Nat):LK Tryz.prog false:=mkL tab (qbH n) [] Tryz.f126 [true,true,true,true,false,false,true,false,true,false,false,false] 2 n [.v (.t 1) T3,.fn (.t 2) 86 [] [],.v (.t 6) T3,.v (.t 7) T3,.v (.t 8) T3,.row (.t 0) true T138 138] [(.exit 4,[.v (.t 1) T3,.fn (.t 2) 86 [] [],.v (.t 6) T3,.v (.t 7) T3,.row (.t 0) true T138 138])] (by kernel_rfl)
def qiU(n:Nat):LK Tryz.prog false:=mkL tab (qbH n) [qiT n] Tryz.f126 [true,true,true,true,false,false] 1 n [.v (.t 1) T3,.fn (.t 2) 86 [] [],.v (.t 6) T3,.row (.t 0) true T138 138] [(.exit 2,[.row (.t 0) true T138 138])] (by kernel_rfl)
def qjj(n:Nat):Cw Tryz.prog:=mkW tab (qbH n) [qiS n,qiU n] Tryz.func126 [.v (.t 1) T3,.fn (.t 2) 86 [] [],.row (.t 0) true T138 138] 3 [[.row (.t 0) true T138 138]] (by kernel_rfl)
noncomputable def qiJ(n:Nat):CL Tryz.prog:=⟨[qqK n],[qjj n],0,nof⟩
def qiV(n:Nat):Cw Tryz.prog:=mkW tab (qiJ n) [] Tryz.func85 [.fn (.t 1) 86 [] [],.row (.t 0) true T138 138] 2 [[.row (.t 0) true T138 138]] (by kernel_rfl)
noncomputable def qqm(n:Nat):CL Tryz.prog:=⟨[],[],0,nof⟩
def qld(n:Nat):Ct Tryz.prog:=mkC tab (qqm n) [] Tryz.func88 [.d T138] [T4] (by kernel_rfl)
noncomputable def qcT(n:Nat):CL Tryz.prog:=⟨[qld n],[],0,nof⟩
def qf5(n:Nat):LK Tryz.prog false:=mkL tab (qcT n) [] Tryz.f127 [true,false,true,false,false] 0 n [.fn (.t 1) 88 [] [],.v (.t 7) T3,.v (.t 8) T3,.row (.t 0) true T138 138] [(.exit 0,[.row (.t 0) true T138 138]),(.ret,[.v (.t 4) T3,.row (.t 0) true T138 138])] (by kernel_rfl)
def qge(n:Nat):Cw Tryz.prog:=mkW tab (qcT n) [qf5 n] Tryz.func127 [.fn (.t 1) 88 [] [],.row (.t 0) true T138 138] 2 [[.v (.t 0) T3,.row (.t 1) true T138 138]] (by kernel_rfl)
noncomputable def qdm(n:Nat):CL Tryz.prog:=⟨[qld n],[qge n],0,nof⟩
def qgC(n:Nat):LK Tryz.prog false:=mkL tab (qdm n) [] Tryz.f87 [true,true,true,false,true,false,false] 0 n [.fn (.t 1) 88 [] [],.v (.t 5) T3,.v (.t 6) T3,.row (.t 0) true T138 138] [(.exit 0,[.v (.t 5) T3,.row (.t 0) true T138 138])] (by kernel_rfl)
def qgL(n:Nat):Cw Tryz.prog:=mkW tab (qdm n) [qgC n] Tryz.func87 [.fn (.t 1) 88 [] [],.row (.t 0) true T138 138] 2 [[.row (.t 1) true T138 138,.sub (.t 0) 0]] (by kernel_rfl)
noncomputable def qhM(n:Nat):CL Tryz.prog:=⟨[tz_C n],[qiV n,qgL n],1,nof⟩
def qrb(n:Nat):LK Tryz.prog false:=mkL tab (qhM n) [] Tryz.f43 [true,true,false,false,false] 0 n [.v (.t 0) T72,.v (.t 1) T70,.row (.t 4) false T80 80,.row (.t 5) false T138 138] [(.exit 0,[.row (.t 4) false T80 80,.row (.t 5) false T138 138])] (by kernel_rfl)
def qrc(n:Nat):LK Tryz.prog false:=mkL tab (qhM n) [] Tryz.f43 [true,true,true,false,false,false] 1 n [.row (.t 4) false T80 80,.row (.t 5) false T138 138] [(.exit 2,[.row (.t 4) false T80 80])] (by kernel_rfl)
def qrJ(n:Nat):Ct Tryz.prog:=mkC tab (qhM n) [qrb n,qrc n] Tryz.func43 [.d T72,.d T70] [T27] (by kernel_rfl)
noncomputable def qsL(n:Nat):CL Tryz.prog:=⟨[qzV n,qtF n,qu3 n,qrJ n],[],0,nof⟩
def qx7(n:Nat):LK Tryz.prog false:=mkL tab (qsL n) [] Tryz.f16 [true,true,true,true,false,true,false,false] 0 n [.v (.t 4) T72,.v (.t 20) T75,.v (.t 21) T3,.v (.t 22) T3,.row (.t 6) false T80 80] [(.exit 0,[.row (.t 6) false T80 80])] (by kernel_rfl)
def qyH(n:Nat):Ct Tryz.prog:=mkC tab (qsL n) [qx7 n] Tryz.func16 [.d T22] [T27,T24] (by kernel_rfl)
noncomputable def qx8(n:Nat):CL Tryz.prog:=⟨[qyH n],[],0,nof⟩
def qtG(n:Nat):Ct Tryz.prog:=mkC tab (qx8 n) [] Tryz.func14 [.d T22] [T3,T24] (by kernel_rfl)
end
noncomputable section
noncomputable def qkj(n:Nat):CL Tryz.prog:=⟨[qn8 n],[],0,nof⟩
def qog(n:Nat):LK Tryz.prog false:=mkL tab (qkj n) [] Tryz.f130 [true,false,true,false,false,true,false,false,true,true,false,false] 1 n [.v (.t 1) T35,.v (.t 9) T3,.v (.t 11) T3,.obj (.t 3) false 34 2,.v (.c 0 0) T34,.obj (.t 5) false 91 5,.v (.c 1 0) T91,.obj (.t 10) false 95 3,.v (.c 2 0) T95] [(.exit 2,[.v (.t 1) T35,.v (.t 9) T3,.obj (.t 3) false 34 2,.v (.c 0 0) T34,.obj (.t 5) false 91 5,.v (.c 1 0) T91]),(.ret,[.v (.t 6) T3,.v (.t 7) T3,.v (.t 8) T3])] (by kernel_rfl)
def qoh(n:Nat):LK Tryz.prog false:=mkL tab (qkj n) [qog n] Tryz.f130 [true,false,true,false,false] 0 n [.v (.t 1) T35,.v (.t 9) T3,.obj (.t 3) false 34 2,.v (.c 0 0) T34,.obj (.t 5) false 91 5,.v (.c 1 0) T91] [(.exit 0,[]),(.ret,[.v (.t 6) T3,.v (.t 7) T3,.v (.t 8) T3])] (by kernel_rfl)
def qoW(n:Nat):Ct Tryz.prog:=mkC tab (qkj n) [qoh n] Tryz.func130 [.d T34,.d T35,.d T91] [T3,T3,T3] (by kernel_rfl)
noncomputable def qm1(n:Nat):CL Tryz.prog:=⟨[qoW n],[],0,nof⟩
def qm2(n:Nat):LK Tryz.prog false:=mkL tab (qm1 n) [] Tryz.f93 [true,false,true,false,false] 0 n [.v (.t 1) T35,.v (.t 6) T3,.obj (.t 2) false 34 2,.v (.c 0 0) T34,.row (.t 4) false T91 91,.row (.t 5) false T91 91] [(.exit 0,[.row (.t 4) false T91 91,.row (.t 5) false T91 91])] (by kernel_rfl)
def qns(n:Nat):Ct Tryz.prog:=mkC tab (qm1 n) [qm2 n] Tryz.func93 [.d T34,.d T35] [T35,T35] (by kernel_rfl)
end
noncomputable section
noncomputable def qyI(n:Nat):CL Tryz.prog:=⟨[qd3 n,qpQ n,quQ n],[],0,nof⟩
def qHy(n:Nat):Ct Tryz.prog:=mkC tab (qyI n) [] Tryz.func25 [.d T3,.d T22] [T22,T24] (by kernel_rfl)
noncomputable def qsd(n:Nat):CL Tryz.prog:=⟨[],[],0,nof⟩
def qnt(n:Nat):Ct Tryz.prog:=mkC tab (qsd n) [] Tryz.func97 [.d T3,.d T3] [T3] (by kernel_rfl)
noncomputable def qoi(n:Nat):CL Tryz.prog:=⟨[],[],0,nof⟩
def qoj(n:Nat):LK Tryz.prog false:=mkL tab (qoi n) [] Tryz.f95 [true,false,true,false,false] 0 n [.v (.t 1) T3,.v (.t 5) T3,.obj (.t 2) false 41 13,.v (.c 0 0) T41,.obj (.t 4) false 112 3,.v (.c 1 0) T112] [(.exit 0,[.v (.t 1) T3,.obj (.t 4) false 112 3,.v (.c 0 0) T112]),(.ret,[.obj (.t 4) false 112 3,.v (.c 0 0) T112])] (by kernel_rfl)
def qoX(n:Nat):Ct Tryz.prog:=mkC tab (qoi n) [qoj n] Tryz.func95 [.d T41,.d T3] [T112] (by kernel_rfl)
noncomputable def qmp(n:Nat):CL Tryz.prog:=⟨[],[],0,nof⟩
def qmq(n:Nat):LK Tryz.prog false:=mkL tab (qmp n) [] Tryz.f96 [true,true,false,true,false,false] 0 n [.v (.t 1) T3,.v (.t 2) T3,.v (.t 7) T3,.obj (.t 3) false 41 13,.v (.c 0 0) T41] [(.exit 0,[.v (.t 1) T3,.v (.t 2) T3,.obj (.t 3) false 41 13,.v (.c 0 0) T41]),(.ret,[.v (.t 6) T4])] (by kernel_rfl)
def qm3(n:Nat):Ct Tryz.prog:=mkC tab (qmp n) [qmq n] Tryz.func96 [.d T41,.d T3,.d T3] [T4] (by kernel_rfl)
noncomputable def quv(n:Nat):CL Tryz.prog:=⟨[qoX n,qm3 n,qnt n],[],0,nof⟩
def qpw(n:Nat):Ct Tryz.prog:=mkC tab (quv n) [] Tryz.func54 [.d T41,.d T91,.d T95] [T3,T3] (by kernel_rfl)
noncomputable def qrK(n:Nat):CL Tryz.prog:=⟨[qns n,qoE n],[],0,nof⟩
def qm4(n:Nat):Ct Tryz.prog:=mkC tab (qrK n) [] Tryz.func53 [.d T41] [T35] (by kernel_rfl)
noncomputable def qjz(n:Nat):CL Tryz.prog:=⟨[qm4 n,qpw n],[],0,nof⟩
def qnu(n:Nat):LK Tryz.prog false:=mkL tab (qjz n) [] Tryz.f24 [true,true,true,true,true,true,false,true,false,false,true,false,false,true,false,false] 1 n [.v (.t 1) T3,.v (.t 8) T3,.v (.t 9) T35,.v (.t 10) T3,.v (.t 11) T3,.obj (.t 7) false 41 13,.v (.c 0 0) T34,.v (.c 0 2) T35,.v (.c 0 3) T3,.row (.c 0 4) false T3 3,.v (.c 0 5) T36,.v (.c 0 6) T37,.v (.c 0 7) T38,.v (.c 0 8) T39,.v (.c 0 9) T3,.v (.c 0 10) T3,.v (.c 0 11) T3,.v (.c 0 12) T3] [(.exit 2,[.v (.t 1) T3,.v (.t 8) T3,.v (.t 9) T35,.v (.t 10) T3,.obj (.t 7) false 41 13,.v (.c 0 0) T34,.v (.c 0 2) T35,.v (.c 0 3) T3,.row (.c 0 4) false T3 3,.v (.c 0 5) T36,.v (.c 0 6) T37,.v (.c 0 7) T38,.v (.c 0 8) T39,.v (.c 0 9) T3,.v (.c 0 10) T3,.v (.c 0 11) T3,.v (.c 0 12) T3])] (by kernel_rfl)
def qnv(n:Nat):LK Tryz.prog false:=mkL tab (qjz n) [qnu n] Tryz.f24 [true,true,true,true,true,true,false,true,false,false] 0 n [.v (.t 1) T3,.v (.t 8) T3,.v (.t 9) T35,.v (.t 10) T3,.obj (.t 7) false 41 13,.v (.c 0 0) T34,.v (.c 0 2) T35,.v (.c 0 3) T3,.row (.c 0 4) false T3 3,.v (.c 0 5) T36,.v (.c 0 6) T37,.v (.c 0 7) T38,.v (.c 0 8) T39,.v (.c 0 9) T3,.v (.c 0 10) T3,.v (.c 0 11) T3,.v (.c 0 12) T3] [(.exit 0,[.v (.t 8) T3])] (by kernel_rfl)
def qkk(n:Nat):Ct Tryz.prog:=mkC tab (qjz n) [qnv n] Tryz.func24 [.d T41,.d T3,.d T3] [T3] (by kernel_rfl)
noncomputable def qok(n:Nat):CL Tryz.prog:=⟨[qkk n,qkP n,qen n],[],0,nof⟩
def qol(n:Nat):LK Tryz.prog false:=mkL tab (qok n) [] Tryz.f21 [true,true,true,true,true,false,false,false] 0 n [.v (.t 1) T3,.v (.t 2) T3,.v (.t 9) T3,.v (.t 10) T3,.obj (.t 3) false 41 13,.v (.c 0 0) T41] [(.exit 0,[.v (.t 9) T3])] (by kernel_rfl)
def qoY(n:Nat):Ct Tryz.prog:=mkC tab (qok n) [qol n] Tryz.func21 [.d T41,.d T3,.d T3] [T3,T24] (by kernel_rfl)
noncomputable def qmr(n:Nat):CL Tryz.prog:=⟨[],[],0,nof⟩
def qrL(n:Nat):LK Tryz.prog false:=mkL tab (qmr n) [] Tryz.f27 [true,true,false,true,false,false] 0 n [.v (.t 0) T22,.v (.t 1) T22,.v (.t 5) T3] [(.exit 0,[]),(.ret,[.v (.t 4) T4])] (by kernel_rfl)
def qm5(n:Nat):Ct Tryz.prog:=mkC tab (qmr n) [qrL n] Tryz.func27 [.d T22,.d T22] [T4] (by kernel_rfl)
noncomputable def qtH(n:Nat):CL Tryz.prog:=⟨[qtG n,qnG n,qm5 n,qrI n,qnq n],[],0,nof⟩
def qkS(n:Nat):Ct Tryz.prog:=mkC tab (qtH n) [] Tryz.func13 [] [T4] (by kernel_rfl)
noncomputable def qtI(n:Nat):CL Tryz.prog:=⟨[qmm n,qkP n],[],0,nof⟩
def qoZ(n:Nat):Ct Tryz.prog:=mkC tab (qtI n) [] Tryz.func23 [.d T41] [T4] (by kernel_rfl)
noncomputable def qqn(n:Nat):CL Tryz.prog:=⟨[qkS n,qmm n,qnG n,qpr n,qoY n],[],0,nof⟩
def qdX(n:Nat):Ct Tryz.prog:=mkC tab (qqn n) [] Tryz.func4 [.d T41,.d T3,.d T3] [T4] (by kernel_rfl)
noncomputable def qqo(n:Nat):CL Tryz.prog:=⟨[qkS n,qnG n,qoZ n,qkk n],[],0,nof⟩
def qdY(n:Nat):Ct Tryz.prog:=mkC tab (qqo n) [] Tryz.func6 [.d T41,.d T47] [T4] (by kernel_rfl)
end
end Go.Proofs.YtlmicgmhallkkaaGreatDoor
