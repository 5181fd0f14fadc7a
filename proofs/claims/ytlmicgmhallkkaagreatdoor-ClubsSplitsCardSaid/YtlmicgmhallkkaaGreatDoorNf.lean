/- Texts DnN, DnO, DnQ, Dnz, DnV, DnW, DnX, DnY, DnL, DnZ in one. -/
import Derived.Test.YtlmicgmhallkkaaGreatDoorNe
import Derived.Test.YtlmicgmhallkkaaGreatDoorNd
import Derived.Test.YtlmicgmhallkkaaGreatDoorKa
import Derived.Test.YtlmicgmhallkkaaGreatDoorTy
/- Printed: what functions of the program compute. -/
set_option linter.constructorNameAsVariable false
set_option linter.unusedSimpArgs false
set_option linter.unusedVariables false
set_option linter.unusedSectionVars false
namespace Go.Proofs.YtlmicgmhallkkaaGreatDoor
open Go Go.Proofs Go.RowKit
set_option maxRecDepth 20000
noncomputable section
noncomputable def qpH(n:Nat):CL Tryz.prog:=⟨[],[],0,nof⟩
def qca(n:Nat):Ct Tryz.prog:=mkC tab (qpH n) [] Tryz.func47 [.d T3,.d T3,.d T3] [T4] (by kernel_rfl)
noncomputable def qoR(n:Nat):CL Tryz.prog:=⟨[qca n],[],0,nof⟩
def qeg(n:Nat):Ct Tryz.prog:=mkC tab (qoR n) [] Tryz.func73 [.d T3] [T4] (by kernel_rfl)
noncomputable def qrX(n:Nat):CL Tryz.prog:=⟨[qca n],[],0,nof⟩
def qgK(n:Nat):Ct Tryz.prog:=mkC tab (qrX n) [] Tryz.func68 [.d T3] [T4] (by kernel_rfl)
noncomputable def qhp(n:Nat):CL Tryz.prog:=⟨[qeg n],[],0,nof⟩
def qbH(n:Nat):Cw Tryz.prog:=mkW tab (qhp n) [] Tryz.func104 [.v (.t 0) T3,.obj (.t 1) true 98 1,.fnc (.c 0 0) 73 []] 2 [[.v (.t 0) T4,.obj (.t 1) true 98 1,.fnc (.c 0 0) 73 []]] (by kernel_rfl)
noncomputable def qbK(n:Nat):CL Tryz.prog:=⟨[qeg n],[qbH n],0,nof⟩
def qbL(n:Nat):LK Tryz.prog false:=mkL tab (qbK n) [] Tryz.f142 [true,false,true,false,false] 0 n [.v (.t 0) T22,.v (.t 7) T3,.v (.t 8) T3,.fnc (.t 1) 104 [.box true 98 1],.fnc (.c 0 0) 73 []] [(.exit 0,[.fnc (.t 1) 104 [.box true 98 1],.fnc (.c 0 0) 73 []]),(.ret,[.v (.t 4) T3,.fnc (.t 1) 104 [.box true 98 1],.fnc (.c 0 0) 73 []])] (by kernel_rfl)
def qbS(n:Nat):Cw Tryz.prog:=mkW tab (qbK n) [qbL n] Tryz.func142 [.v (.t 0) T22,.fnc (.t 1) 104 [.box true 98 1],.fnc (.c 0 0) 73 []] 2 [[.v (.t 0) T3,.obj (.t 1) true 98 1,.fnc (.c 0 0) 73 []]] (by kernel_rfl)
noncomputable def qdp(n:Nat):CL Tryz.prog:=⟨[qeg n],[qbH n,qbS n],0,nof⟩
def qbD(n:Nat):Cw Tryz.prog:=mkW tab (qdp n) [] Tryz.func103 [.v (.t 0) T22,.fnc (.t 1) 104 [.box true 98 1],.fnc (.c 0 0) 73 []] 2 [[.v (.t 0) T4,.obj (.t 1) true 98 1,.fnc (.c 0 0) 73 []]] (by kernel_rfl)
noncomputable def qhB(n:Nat):CL Tryz.prog:=⟨[qeg n],[qbD n],0,nof⟩
def qe3(n:Nat):Cw Tryz.prog:=mkW tab (qhB n) [] Tryz.func67 [.v (.t 0) T22,.fn (.t 1) 73 [] []] 2 [[.v (.t 0) T4]] (by kernel_rfl)
noncomputable def qhX(n:Nat):CL Tryz.prog:=⟨[qgK n],[],0,nof⟩
def qfF(n:Nat):Cw Tryz.prog:=mkW tab (qhX n) [] Tryz.func104 [.v (.t 0) T3,.obj (.t 1) true 98 1,.fnc (.c 0 0) 68 []] 2 [[.v (.t 0) T4,.obj (.t 1) true 98 1,.fnc (.c 0 0) 68 []]] (by kernel_rfl)
noncomputable def qb6(n:Nat):CL Tryz.prog:=⟨[qgK n],[qfF n],0,nof⟩
def qen(n:Nat):LK Tryz.prog false:=mkL tab (qb6 n) [] Tryz.f142 [true,false,true,false,false] 0 n [.v (.t 0) T22,.v (.t 7) T3,.v (.t 8) T3,.fnc (.t 1) 104 [.box true 98 1],.fnc (.c 0 0) 68 []] [(.exit 0,[.fnc (.t 1) 104 [.box true 98 1],.fnc (.c 0 0) 68 []]),(.ret,[.v (.t 4) T3,.fnc (.t 1) 104 [.box true 98 1],.fnc (.c 0 0) 68 []])] (by kernel_rfl)
def qeu(n:Nat):Cw Tryz.prog:=mkW tab (qb6 n) [qen n] Tryz.func142 [.v (.t 0) T22,.fnc (.t 1) 104 [.box true 98 1],.fnc (.c 0 0) 68 []] 2 [[.v (.t 0) T3,.obj (.t 1) true 98 1,.fnc (.c 0 0) 68 []]] (by kernel_rfl)
noncomputable def qdU(n:Nat):CL Tryz.prog:=⟨[qgK n],[qbH n,qfF n,qeu n],0,nof⟩
def qd6(n:Nat):Cw Tryz.prog:=mkW tab (qdU n) [] Tryz.func103 [.v (.t 0) T22,.fnc (.t 1) 104 [.box true 98 1],.fnc (.c 0 0) 68 []] 2 [[.v (.t 0) T4,.obj (.t 1) true 98 1,.fnc (.c 0 0) 68 []]] (by kernel_rfl)
noncomputable def qiv(n:Nat):CL Tryz.prog:=⟨[qgK n],[qd6 n],0,nof⟩
def qf9(n:Nat):Cw Tryz.prog:=mkW tab (qiv n) [] Tryz.func67 [.v (.t 0) T22,.fn (.t 1) 68 [] []] 2 [[.v (.t 0) T4]] (by kernel_rfl)
noncomputable def qkY(n:Nat):CL Tryz.prog:=⟨[],[qe3 n],0,nof⟩
def qkZ(n:Nat):LK Tryz.prog false:=mkL tab (qkY n) [] Tryz.f55 [true,true,false,true,false,false] 0 n [.v (.t 0) T22,.v (.t 3) T3,.v (.t 6) T22,.v (.t 7) T3,.v (.t 8) T3] [(.exit 0,[.v (.t 0) T22,.v (.t 3) T3])] (by kernel_rfl)
def qiX(n:Nat):Ct Tryz.prog:=mkC tab (qkY n) [qkZ n] Tryz.func55 [.d T22] [T4] (by kernel_rfl)
noncomputable def qn9(n:Nat):CL Tryz.prog:=⟨[qca n],[],0,nof⟩
def qbB(n:Nat):Cw Tryz.prog:=mkW tab (qn9 n) [] Tryz.func62 [.v (.t 0) T3,.obj (.t 1) true 41 13,.v (.c 0 0) T41] 2 [[.v (.t 0) T4,.obj (.t 1) true 41 13,.v (.c 0 0) T41]] (by kernel_rfl)
noncomputable def qoa(n:Nat):CL Tryz.prog:=⟨[qiX n],[],0,nof⟩
def qgq(n:Nat):Cw Tryz.prog:=mkW tab (qoa n) [] Tryz.func63 [.v (.t 0) T22,.obj (.t 1) true 41 13,.v (.c 0 0) T41] 2 [[.v (.t 0) T4,.obj (.t 1) true 41 13,.v (.c 0 0) T41]] (by kernel_rfl)
noncomputable def qob(n:Nat):CL Tryz.prog:=⟨[qca n],[],0,nof⟩
def qgr(n:Nat):Cw Tryz.prog:=mkW tab (qob n) [] Tryz.func64 [.v (.t 0) T112,.obj (.t 1) true 110 1,.mpi (.c 0 0) true T3 T3,.obj (.t 2) true 41 13,.v (.c 2 0) T41] 3 [[.v (.t 0) T4,.obj (.t 1) true 110 1,.mpi (.c 0 0) true T3 T3,.obj (.t 3) true 41 13,.v (.c 2 0) T41]] (by kernel_rfl)
noncomputable def qhY(n:Nat):CL Tryz.prog:=⟨[],[qbB n],0,nof⟩
def qch(n:Nat):Cw Tryz.prog:=mkW tab (qhY n) [] Tryz.func65 [.v (.t 0) T64,.obj (.t 1) true 98 1,.fnc (.c 0 0) 62 [.box true 41 13],.v (.c 1 0) T41] 2 [[.v (.t 0) T4,.obj (.t 1) true 98 1,.fnc (.c 0 0) 62 [.box true 41 13],.v (.c 1 0) T41]] (by kernel_rfl)
noncomputable def qhZ(n:Nat):CL Tryz.prog:=⟨[qca n],[qbB n],0,nof⟩
def qci(n:Nat):Cw Tryz.prog:=mkW tab (qhZ n) [] Tryz.func66 [.v (.t 0) T108,.obj (.t 1) true 98 1,.obj (.t 2) true 41 13,.v (.c 1 0) T41,.fnc (.c 0 0) 62 [.al 1]] 3 [[.v (.t 0) T4,.obj (.t 1) true 98 1,.obj (.t 2) true 41 13,.v (.c 1 0) T41,.fnc (.c 0 0) 62 [.al 1]]] (by kernel_rfl)
noncomputable def qhq(n:Nat):CL Tryz.prog:=⟨[],[qgq n],0,nof⟩
def qev(n:Nat):Cw Tryz.prog:=mkW tab (qhq n) [] Tryz.func106 [.v (.t 0) T22,.obj (.t 1) true 31 1,.fnc (.c 0 0) 63 [.box true 41 13],.v (.c 1 0) T41] 2 [[.v (.t 0) T4,.obj (.t 1) true 31 1,.fnc (.c 0 0) 63 [.box true 41 13],.v (.c 1 0) T41]] (by kernel_rfl)
noncomputable def qbM(n:Nat):CL Tryz.prog:=⟨[],[qgq n,qev n],0,nof⟩
def qdK(n:Nat):LK Tryz.prog false:=mkL tab (qbM n) [] Tryz.f143 [true,false,true,false,false] 0 n [.v (.t 0) T36,.v (.t 7) T3,.v (.t 8) T3,.fnc (.t 1) 106 [.box true 31 1],.fnc (.c 0 0) 63 [.box true 41 13],.v (.c 1 0) T41] [(.exit 0,[.fnc (.t 1) 106 [.box true 31 1],.fnc (.c 0 0) 63 [.box true 41 13],.v (.c 1 0) T41]),(.ret,[.v (.t 4) T3,.fnc (.t 1) 106 [.box true 31 1],.fnc (.c 0 0) 63 [.box true 41 13],.v (.c 1 0) T41])] (by kernel_rfl)
def qdV(n:Nat):Cw Tryz.prog:=mkW tab (qbM n) [qdK n] Tryz.func143 [.v (.t 0) T36,.fnc (.t 1) 106 [.box true 31 1],.fnc (.c 0 0) 63 [.box true 41 13],.v (.c 1 0) T41] 2 [[.v (.t 0) T3,.obj (.t 1) true 31 1,.fnc (.c 0 0) 63 [.box true 41 13],.v (.c 1 0) T41]] (by kernel_rfl)
noncomputable def qdq(n:Nat):CL Tryz.prog:=⟨[],[qgq n,qev n,qdV n],0,nof⟩
def qdw(n:Nat):Cw Tryz.prog:=mkW tab (qdq n) [] Tryz.func105 [.v (.t 0) T36,.fnc (.t 1) 106 [.box true 31 1],.fnc (.c 0 0) 63 [.box true 41 13],.v (.c 1 0) T41] 2 [[.v (.t 0) T4,.obj (.t 1) true 31 1,.fnc (.c 0 0) 63 [.box true 41 13],.v (.c 1 0) T41]] (by kernel_rfl)
noncomputable def qhC(n:Nat):CL Tryz.prog:=⟨[],[qgq n,qdw n],0,nof⟩
def qe4(n:Nat):Cw Tryz.prog:=mkW tab (qhC n) [] Tryz.func69 [.v (.t 0) T36,.fnc (.t 1) 63 [.box true 41 13],.v (.c 0 0) T41] 2 [[.v (.t 0) T4,.obj (.t 1) true 41 13,.v (.c 0 0) T41]] (by kernel_rfl)
noncomputable def qgs(n:Nat):CL Tryz.prog:=⟨[],[qgr n],0,nof⟩
def qdu(n:Nat):Cw Tryz.prog:=mkW tab (qgs n) [] Tryz.func108 [.v (.t 0) T112,.obj (.t 1) true 113 1,.fnc (.c 0 0) 64 [.box true 110 1,.box true 41 13],.mpi (.c 1 0) true T3 T3,.v (.c 2 0) T41] 2 [[.v (.t 0) T4,.obj (.t 1) true 113 1,.fnc (.c 0 0) 64 [.box true 110 1,.box true 41 13],.mpi (.c 1 0) true T3 T3,.v (.c 2 0) T41]] (by kernel_rfl)
noncomputable def qbn(n:Nat):CL Tryz.prog:=⟨[],[qgr n,qdu n],0,nof⟩
def qcP(n:Nat):LK Tryz.prog false:=mkL tab (qbn n) [] Tryz.f144 [true,false,true,false,false] 0 n [.v (.t 0) T37,.v (.t 7) T3,.v (.t 8) T3,.fnc (.t 1) 108 [.box true 113 1],.fnc (.c 0 0) 64 [.box true 110 1,.box true 41 13],.mpi (.c 1 0) true T3 T3,.v (.c 2 0) T41] [(.exit 0,[.fnc (.t 1) 108 [.box true 113 1],.fnc (.c 0 0) 64 [.box true 110 1,.box true 41 13],.mpi (.c 1 0) true T3 T3,.v (.c 2 0) T41]),(.ret,[.v (.t 4) T3,.fnc (.t 1) 108 [.box true 113 1],.fnc (.c 0 0) 64 [.box true 110 1,.box true 41 13],.mpi (.c 1 0) true T3 T3,.v (.c 2 0) T41])] (by kernel_rfl)
def qcR(n:Nat):Cw Tryz.prog:=mkW tab (qbn n) [qcP n] Tryz.func144 [.v (.t 0) T37,.fnc (.t 1) 108 [.box true 113 1],.fnc (.c 0 0) 64 [.box true 110 1,.box true 41 13],.mpi (.c 1 0) true T3 T3,.v (.c 2 0) T41] 2 [[.v (.t 0) T3,.obj (.t 1) true 113 1,.fnc (.c 0 0) 64 [.box true 110 1,.box true 41 13],.mpi (.c 1 0) true T3 T3,.v (.c 2 0) T41]] (by kernel_rfl)
noncomputable def qcF(n:Nat):CL Tryz.prog:=⟨[],[qgr n,qdu n,qcR n],0,nof⟩
def qcI(n:Nat):Cw Tryz.prog:=mkW tab (qcF n) [] Tryz.func107 [.v (.t 0) T37,.fnc (.t 1) 108 [.box true 113 1],.fnc (.c 0 0) 64 [.box true 110 1,.box true 41 13],.mpi (.c 1 0) true T3 T3,.v (.c 2 0) T41] 2 [[.v (.t 0) T4,.obj (.t 1) true 113 1,.fnc (.c 0 0) 64 [.box true 110 1,.box true 41 13],.mpi (.c 1 0) true T3 T3,.v (.c 2 0) T41]] (by kernel_rfl)
noncomputable def qgM(n:Nat):CL Tryz.prog:=⟨[],[qgr n,qcI n],0,nof⟩
def qdO(n:Nat):Cw Tryz.prog:=mkW tab (qgM n) [] Tryz.func70 [.v (.t 0) T37,.fnc (.t 1) 64 [.box true 110 1,.box true 41 13],.mpi (.c 0 0) true T3 T3,.v (.c 1 0) T41] 2 [[.v (.t 0) T4,.obj (.t 1) true 110 1,.obj (.t 2) true 41 13,.mpi (.c 0 0) true T3 T3,.v (.c 1 0) T41]] (by kernel_rfl)
noncomputable def qd7(n:Nat):CL Tryz.prog:=⟨[],[qbB n,qch n],0,nof⟩
def qb2(n:Nat):Cw Tryz.prog:=mkW tab (qd7 n) [] Tryz.func110 [.v (.t 0) T64,.obj (.t 1) true 114 1,.fnc (.c 0 0) 65 [.box true 98 1],.fnc (.c 1 0) 62 [.box true 41 13],.v (.c 2 0) T41] 2 [[.v (.t 0) T4,.obj (.t 1) true 114 1,.fnc (.c 0 0) 65 [.box true 98 1],.fnc (.c 1 0) 62 [.box true 41 13],.v (.c 2 0) T41]] (by kernel_rfl)
noncomputable def qQ(n:Nat):CL Tryz.prog:=⟨[],[qbB n,qch n,qb2 n],0,nof⟩
def qbZ(n:Nat):LK Tryz.prog false:=mkL tab (qQ n) [] Tryz.f145 [true,false,true,false,false] 0 n [.v (.t 0) T38,.v (.t 7) T3,.v (.t 8) T3,.fnc (.t 1) 110 [.box true 114 1],.fnc (.c 0 0) 65 [.box true 98 1],.fnc (.c 1 0) 62 [.box true 41 13],.v (.c 2 0) T41] [(.exit 0,[.fnc (.t 1) 110 [.box true 114 1],.fnc (.c 0 0) 65 [.box true 98 1],.fnc (.c 1 0) 62 [.box true 41 13],.v (.c 2 0) T41]),(.ret,[.v (.t 4) T3,.fnc (.t 1) 110 [.box true 114 1],.fnc (.c 0 0) 65 [.box true 98 1],.fnc (.c 1 0) 62 [.box true 41 13],.v (.c 2 0) T41])] (by kernel_rfl)
def qR(n:Nat):Cw Tryz.prog:=mkW tab (qQ n) [qbZ n] Tryz.func145 [.v (.t 0) T38,.fnc (.t 1) 110 [.box true 114 1],.fnc (.c 0 0) 65 [.box true 98 1],.fnc (.c 1 0) 62 [.box true 41 13],.v (.c 2 0) T41] 2 [[.v (.t 0) T3,.obj (.t 1) true 114 1,.fnc (.c 0 0) 65 [.box true 98 1],.fnc (.c 1 0) 62 [.box true 41 13],.v (.c 2 0) T41]] (by kernel_rfl)
noncomputable def qbQ(n:Nat):CL Tryz.prog:=⟨[],[qbB n,qch n,qb2 n,qR n],0,nof⟩
def qL(n:Nat):Cw Tryz.prog:=mkW tab (qbQ n) [] Tryz.func109 [.v (.t 0) T38,.fnc (.t 1) 110 [.box true 114 1],.fnc (.c 0 0) 65 [.box true 98 1],.fnc (.c 1 0) 62 [.box true 41 13],.v (.c 2 0) T41] 2 [[.v (.t 0) T4,.obj (.t 1) true 114 1,.fnc (.c 0 0) 65 [.box true 98 1],.fnc (.c 1 0) 62 [.box true 41 13],.v (.c 2 0) T41]] (by kernel_rfl)
noncomputable def qeo(n:Nat):CL Tryz.prog:=⟨[],[qbB n,qch n,qL n],0,nof⟩
def qcd(n:Nat):Cw Tryz.prog:=mkW tab (qeo n) [] Tryz.func71 [.v (.t 0) T38,.fnc (.t 1) 65 [.box true 98 1],.fnc (.c 0 0) 62 [.box true 41 13],.v (.c 1 0) T41] 2 [[.v (.t 0) T4,.obj (.t 1) true 98 1,.fnc (.c 0 0) 62 [.box true 41 13],.v (.c 1 0) T41]] (by kernel_rfl)
noncomputable def qea(n:Nat):CL Tryz.prog:=⟨[],[qbB n,qci n],0,nof⟩
def qb7(n:Nat):Cw Tryz.prog:=mkW tab (qea n) [] Tryz.func112 [.v (.t 0) T108,.obj (.t 1) true 115 1,.fnc (.c 0 0) 66 [.box true 98 1,.box true 41 13],.fnc (.c 1 0) 62 [.al 2],.v (.c 2 0) T41] 2 [[.v (.t 0) T4,.obj (.t 1) true 115 1,.fnc (.c 0 0) 66 [.box true 98 1,.box true 41 13],.fnc (.c 1 0) 62 [.al 2],.v (.c 2 0) T41]] (by kernel_rfl)
noncomputable def qX(n:Nat):CL Tryz.prog:=⟨[],[qbB n,qci n,qb7 n],0,nof⟩
def qb8(n:Nat):LK Tryz.prog false:=mkL tab (qX n) [] Tryz.f146 [true,false,true,false,false] 0 n [.v (.t 0) T39,.v (.t 7) T3,.v (.t 8) T3,.fnc (.t 1) 112 [.box true 115 1],.fnc (.c 0 0) 66 [.box true 98 1,.box true 41 13],.fnc (.c 1 0) 62 [.al 2],.v (.c 2 0) T41] [(.exit 0,[.fnc (.t 1) 112 [.box true 115 1],.fnc (.c 0 0) 66 [.box true 98 1,.box true 41 13],.fnc (.c 1 0) 62 [.al 2],.v (.c 2 0) T41]),(.ret,[.v (.t 4) T3,.fnc (.t 1) 112 [.box true 115 1],.fnc (.c 0 0) 66 [.box true 98 1,.box true 41 13],.fnc (.c 1 0) 62 [.al 2],.v (.c 2 0) T41])] (by kernel_rfl)
def qcb(n:Nat):Cw Tryz.prog:=mkW tab (qX n) [qb8 n] Tryz.func146 [.v (.t 0) T39,.fnc (.t 1) 112 [.box true 115 1],.fnc (.c 0 0) 66 [.box true 98 1,.box true 41 13],.fnc (.c 1 0) 62 [.al 2],.v (.c 2 0) T41] 2 [[.v (.t 0) T3,.obj (.t 1) true 115 1,.fnc (.c 0 0) 66 [.box true 98 1,.box true 41 13],.fnc (.c 1 0) 62 [.al 2],.v (.c 2 0) T41]] (by kernel_rfl)
noncomputable def qbW(n:Nat):CL Tryz.prog:=⟨[],[qbB n,qci n,qb7 n,qcb n],0,nof⟩
def qb0(n:Nat):Cw Tryz.prog:=mkW tab (qbW n) [] Tryz.func111 [.v (.t 0) T39,.fnc (.t 1) 112 [.box true 115 1],.fnc (.c 0 0) 66 [.box true 98 1,.box true 41 13],.fnc (.c 1 0) 62 [.al 2],.v (.c 2 0) T41] 2 [[.v (.t 0) T4,.obj (.t 1) true 115 1,.fnc (.c 0 0) 66 [.box true 98 1,.box true 41 13],.fnc (.c 1 0) 62 [.al 2],.v (.c 2 0) T41]] (by kernel_rfl)
noncomputable def qew(n:Nat):CL Tryz.prog:=⟨[],[qbB n,qci n,qb0 n],0,nof⟩
def qcj(n:Nat):Cw Tryz.prog:=mkW tab (qew n) [] Tryz.func72 [.v (.t 0) T39,.fnc (.t 1) 66 [.box true 98 1,.box true 41 13],.fnc (.c 0 0) 62 [.al 1],.v (.c 1 0) T41] 2 [[.v (.t 0) T4,.obj (.t 1) true 98 1,.obj (.t 2) true 41 13,.fnc (.c 0 0) 62 [.al 1],.v (.c 1 0) T41]] (by kernel_rfl)
noncomputable def qp9(n:Nat):CL Tryz.prog:=⟨[qca n,qkq n,qgK n,qeg n],[qf9 n,qe4 n,qdO n,qcd n,qcj n],0,nof⟩
def qmH(n:Nat):Ct Tryz.prog:=mkC tab (qp9 n) [] Tryz.func33 [.d T41] [T24] (by kernel_rfl)
noncomputable def qoS(n:Nat):CL Tryz.prog:=⟨[],[],0,nof⟩
def qpI(n:Nat):Cw Tryz.prog:=mkW tab (qoS n) [] Tryz.func89 [.v (.t 0) T91,.obj (.t 1) true 3 1,.v (.c 0 0) T3] 2 [[.v (.t 0) T4,.obj (.t 1) true 3 1,.v (.c 0 0) T3]] (by kernel_rfl)
noncomputable def qcQ(n:Nat):CL Tryz.prog:=⟨[],[qpI n],0,nof⟩
def qfR(n:Nat):LK Tryz.prog false:=mkL tab (qcQ n) [] Tryz.f58 [true,false,true,false,false] 0 n [.v (.t 0) T35,.v (.t 7) T3,.v (.t 8) T3,.fnc (.t 1) 89 [.box true 3 1],.v (.c 0 0) T3] [(.exit 0,[.fnc (.t 1) 89 [.box true 3 1],.v (.c 0 0) T3]),(.ret,[.v (.t 4) T3,.fnc (.t 1) 89 [.box true 3 1],.v (.c 0 0) T3])] (by kernel_rfl)
def qf1(n:Nat):Cw Tryz.prog:=mkW tab (qcQ n) [qfR n] Tryz.func58 [.v (.t 0) T35,.fnc (.t 1) 89 [.box true 3 1],.v (.c 0 0) T3] 2 [[.v (.t 0) T3,.obj (.t 1) true 3 1,.v (.c 0 0) T3]] (by kernel_rfl)
noncomputable def qlD(n:Nat):CL Tryz.prog:=⟨[qmH n,qkX n],[qbw n,q9 n,qb5 n,qf1 n],0,nof⟩
def qlE(n:Nat):LK Tryz.prog false:=mkL tab (qlD n) [] Tryz.f46 [true,true,true,true,false,true,false,false] 0 n [.v (.t 27) T22,.v (.t 28) T3,.v (.t 29) T3,.obj (.t 1) false 41 13,.v (.c 0 0) T41,.obj (.t 5) false 88 14,.v (.c 1 0) T41,.row (.c 1 13) false T91 91] [(.exit 0,[.obj (.t 5) false 88 14,.v (.c 0 0) T41,.row (.c 0 13) false T91 91])] (by kernel_rfl)
def qjE(n:Nat):Cw Tryz.prog:=mkW tab (qlD n) [qlE n] Tryz.func46 [.v (.t 0) T41] 1 [[.v (.t 1) T24,.obj (.t 0) false 88 14,.v (.c 0 0) T41,.row (.c 0 13) false T91 91],[.nilp (.t 0),.v (.t 1) T24]] (by kernel_rfl)
noncomputable def qhD(n:Nat):CL Tryz.prog:=⟨[],[],0,nof⟩
def qk9(n:Nat):LK Tryz.prog false:=mkL tab (qhD n) [] Tryz.f90 [true,false,true,false,false] 0 n [.v (.t 1) T3,.v (.t 11) T37,.v (.t 12) T3,.v (.t 13) T3,.obj (.t 0) true 88 14,.v (.c 0 0) T88,.obj (.t 4) false 112 3,.v (.c 1 0) T112] [(.exit 0,[.v (.t 1) T3,.obj (.t 0) true 88 14,.v (.c 0 0) T88,.obj (.t 4) false 112 3,.v (.c 1 0) T112]),(.ret,[.obj (.t 0) true 88 14,.v (.c 0 0) T88,.obj (.t 4) false 112 3,.v (.c 1 0) T112])] (by kernel_rfl)
def qlF(n:Nat):Cw Tryz.prog:=mkW tab (qhD n) [qk9 n] Tryz.func90 [.v (.t 1) T3,.obj (.t 0) true 88 14,.v (.c 0 0) T88] 2 [[.v (.t 0) T112,.obj (.t 1) true 88 14,.v (.c 0 0) T88]] (by kernel_rfl)
noncomputable def qlG(n:Nat):CL Tryz.prog:=⟨[],[],0,nof⟩
def qie(n:Nat):Cw Tryz.prog:=mkW tab (qlG n) [] Tryz.func128 [.v (.t 1) T3,.v (.t 2) T3,.obj (.t 0) true 88 14,.v (.c 0 0) T88] 3 [[.v (.t 0) T4,.obj (.t 1) true 88 14,.v (.c 0 0) T88]] (by kernel_rfl)
noncomputable def qjo(n:Nat):CL Tryz.prog:=⟨[],[qie n],0,nof⟩
def qep(n:Nat):Cw Tryz.prog:=mkW tab (qjo n) [] Tryz.func129 [.v (.t 0) T64,.obj (.t 1) true 3 1,.v (.c 0 0) T3,.obj (.t 2) true 83 1,.obj (.c 1 0) true 88 14,.v (.c 2 0) T88,.obj (.t 3) true 3 1,.v (.c 3 0) T3] 4 [[.v (.t 0) T4,.obj (.t 1) true 3 1,.v (.c 0 0) T3,.obj (.t 2) true 83 1,.obj (.c 1 0) true 88 14,.v (.c 2 0) T88,.obj (.t 4) true 3 1,.v (.c 3 0) T3]] (by kernel_rfl)
noncomputable def qb3(n:Nat):CL Tryz.prog:=⟨[],[qep n],0,nof⟩
def qeb(n:Nat):LK Tryz.prog false:=mkL tab (qb3 n) [] Tryz.f145 [true,false,true,false,false] 0 n [.v (.t 0) T38,.v (.t 7) T3,.v (.t 8) T3,.fnc (.t 1) 129 [.box true 3 1,.box true 83 1,.box true 3 1],.v (.c 0 0) T3,.obj (.c 1 0) true 88 14,.v (.c 3 0) T88,.v (.c 2 0) T3] [(.exit 0,[.fnc (.t 1) 129 [.box true 3 1,.box true 83 1,.box true 3 1],.v (.c 0 0) T3,.obj (.c 1 0) true 88 14,.v (.c 3 0) T88,.v (.c 2 0) T3]),(.ret,[.v (.t 4) T3,.fnc (.t 1) 129 [.box true 3 1,.box true 83 1,.box true 3 1],.v (.c 0 0) T3,.obj (.c 1 0) true 88 14,.v (.c 3 0) T88,.v (.c 2 0) T3])] (by kernel_rfl)
def qeq(n:Nat):Cw Tryz.prog:=mkW tab (qb3 n) [qeb n] Tryz.func145 [.v (.t 0) T38,.fnc (.t 1) 129 [.box true 3 1,.box true 83 1,.box true 3 1],.v (.c 0 0) T3,.obj (.c 1 0) true 88 14,.v (.c 3 0) T88,.v (.c 2 0) T3] 2 [[.v (.t 0) T3,.obj (.t 1) true 3 1,.obj (.t 2) true 83 1,.obj (.t 3) true 3 1,.v (.c 0 0) T3,.obj (.c 1 0) true 88 14,.v (.c 3 0) T88,.v (.c 2 0) T3]] (by kernel_rfl)
noncomputable def qdL(n:Nat):CL Tryz.prog:=⟨[],[qep n,qR n,qeq n],0,nof⟩
def qdW(n:Nat):Cw Tryz.prog:=mkW tab (qdL n) [] Tryz.func109 [.v (.t 0) T38,.fnc (.t 1) 129 [.box true 3 1,.box true 83 1,.box true 3 1],.v (.c 0 0) T3,.obj (.c 1 0) true 88 14,.v (.c 3 0) T88,.v (.c 2 0) T3] 2 [[.v (.t 0) T4,.obj (.t 1) true 3 1,.obj (.t 2) true 83 1,.obj (.t 3) true 3 1,.v (.c 0 0) T3,.obj (.c 1 0) true 88 14,.v (.c 3 0) T88,.v (.c 2 0) T3]] (by kernel_rfl)
noncomputable def qj3(n:Nat):CL Tryz.prog:=⟨[],[qL n,qdW n,qie n],0,nof⟩
def qks(n:Nat):Cw Tryz.prog:=mkW tab (qj3 n) [] Tryz.func91 [.v (.t 1) T3,.v (.t 2) T3,.obj (.t 0) true 88 14,.v (.c 0 0) T88] 3 [[.v (.t 0) T4,.obj (.t 1) true 88 14,.v (.c 0 0) T88]] (by kernel_rfl)
noncomputable def qsi(n:Nat):CL Tryz.prog:=⟨[],[],0,nof⟩
def qpJ(n:Nat):Ct Tryz.prog:=mkC tab (qsi n) [] Tryz.func92 [.d T3,.d T3] [T3] (by kernel_rfl)
noncomputable def qlH(n:Nat):CL Tryz.prog:=⟨[qpJ n],[qlF n,qks n],0,nof⟩
def qmv(n:Nat):Cw Tryz.prog:=mkW tab (qlH n) [] Tryz.func50 [.v (.t 1) T91,.v (.t 2) T95,.obj (.t 0) true 88 14,.v (.c 0 0) T88] 3 [[.v (.t 0) T3,.v (.t 1) T3,.obj (.t 2) true 88 14,.v (.c 0 0) T88]] (by kernel_rfl)
end
noncomputable section
noncomputable def qoc(n:Nat):CL Tryz.prog:=⟨[qdn n],[],0,nof⟩
def qgt(n:Nat):Cw Tryz.prog:=mkW tab (qoc n) [] Tryz.func99 [.v (.t 0) T3,.v (.t 1) T3,.obj (.t 2) true 3 1,.v (.c 0 0) T3,.obj (.t 3) true 22 1,.v (.c 1 0) T22] 4 [[.v (.t 0) T3,.obj (.t 1) true 3 1,.v (.c 0 0) T3,.obj (.t 2) true 22 1,.v (.c 1 0) T22]] (by kernel_rfl)
noncomputable def qbr(n:Nat):CL Tryz.prog:=⟨[],[qgt n],0,nof⟩
def qco(n:Nat):LK Tryz.prog false:=mkL tab (qbr n) [] Tryz.f174 [true,false,false,true,false,false,true,false,false] 1 n [.v (.t 1) T3,.v (.t 2) T3,.v (.t 8) T3,.v (.t 9) T3,.row (.t 0) true T3 3,.fnc (.t 3) 99 [.box true 3 1,.box true 22 1],.v (.c 1 0) T3,.v (.c 2 0) T22] [(.exit 2,[.v (.t 1) T3,.v (.t 2) T3,.v (.t 8) T3,.row (.t 0) true T3 3,.fnc (.t 3) 99 [.box true 3 1,.box true 22 1],.v (.c 1 0) T3,.v (.c 2 0) T22])] (by kernel_rfl)
def qcp(n:Nat):LK Tryz.prog false:=mkL tab (qbr n) [qco n] Tryz.f174 [true,false,false] 0 n [.v (.t 1) T3,.v (.t 2) T3,.v (.t 8) T3,.row (.t 0) true T3 3,.fnc (.t 3) 99 [.box true 3 1,.box true 22 1],.v (.c 1 0) T3,.v (.c 2 0) T22] [(.exit 0,[.row (.t 0) true T3 3,.fnc (.t 3) 99 [.box true 3 1,.box true 22 1],.v (.c 1 0) T3,.v (.c 2 0) T22])] (by kernel_rfl)
def qcw(n:Nat):Cw Tryz.prog:=mkW tab (qbr n) [qcp n] Tryz.func174 [.v (.t 1) T3,.v (.t 2) T3,.row (.t 0) true T3 3,.fnc (.t 3) 99 [.box true 3 1,.box true 22 1],.v (.c 1 0) T3,.v (.c 2 0) T22] 4 [[.row (.t 0) true T3 3,.obj (.t 1) true 3 1,.obj (.t 2) true 22 1,.v (.c 1 0) T3,.v (.c 2 0) T22]] (by kernel_rfl)
noncomputable def qbg(n:Nat):CL Tryz.prog:=⟨[],[qgt n,qcw n],0,nof⟩
def qc1(n:Nat):LK Tryz.prog false:=mkL tab (qbg n) [] Tryz.f132 [true,true,false,false,false] 0 n [.v (.t 1) T3,.v (.t 6) T3,.v (.t 7) T3,.v (.t 8) T3,.row (.t 0) true T3 3,.fnc (.t 2) 99 [.box true 3 1,.box true 22 1],.v (.c 1 0) T3,.v (.c 2 0) T22] [(.exit 0,[.v (.t 1) T3,.v (.t 6) T3,.v (.t 7) T3,.row (.t 0) true T3 3,.fnc (.t 2) 99 [.box true 3 1,.box true 22 1],.v (.c 1 0) T3,.v (.c 2 0) T22])] (by kernel_rfl)
def qc2(n:Nat):LK Tryz.prog false:=mkL tab (qbg n) [] Tryz.f132 [true,true,true,true,false,false,true,false,true,false,false,false] 2 n [.v (.t 1) T3,.v (.t 6) T3,.v (.t 7) T3,.v (.t 8) T3,.row (.t 0) true T3 3,.fnc (.t 2) 99 [.box true 3 1,.box true 22 1],.v (.c 1 0) T3,.v (.c 2 0) T22] [(.exit 4,[.v (.t 1) T3,.v (.t 6) T3,.v (.t 7) T3,.row (.t 0) true T3 3,.fnc (.t 2) 99 [.box true 3 1,.box true 22 1],.v (.c 1 0) T3,.v (.c 2 0) T22])] (by kernel_rfl)
def qc3(n:Nat):LK Tryz.prog false:=mkL tab (qbg n) [qc2 n] Tryz.f132 [true,true,true,true,false,false] 1 n [.v (.t 1) T3,.v (.t 6) T3,.row (.t 0) true T3 3,.fnc (.t 2) 99 [.box true 3 1,.box true 22 1],.v (.c 1 0) T3,.v (.c 2 0) T22] [(.exit 2,[.row (.t 0) true T3 3,.fnc (.t 2) 99 [.box true 3 1,.box true 22 1],.v (.c 1 0) T3,.v (.c 2 0) T22])] (by kernel_rfl)
def qdc(n:Nat):Cw Tryz.prog:=mkW tab (qbg n) [qc1 n,qc3 n] Tryz.func132 [.v (.t 1) T3,.row (.t 0) true T3 3,.fnc (.t 2) 99 [.box true 3 1,.box true 22 1],.v (.c 1 0) T3,.v (.c 2 0) T22] 3 [[.row (.t 0) true T3 3,.obj (.t 1) true 3 1,.obj (.t 2) true 22 1,.v (.c 1 0) T3,.v (.c 2 0) T22]] (by kernel_rfl)
noncomputable def qf2(n:Nat):CL Tryz.prog:=⟨[],[qgt n,qdc n],0,nof⟩
def qc4(n:Nat):Cw Tryz.prog:=mkW tab (qf2 n) [] Tryz.func98 [.row (.t 0) true T3 3,.fnc (.t 1) 99 [.box true 3 1,.box true 22 1],.v (.c 1 0) T3,.v (.c 2 0) T22] 2 [[.row (.t 0) true T3 3,.obj (.t 1) true 3 1,.obj (.t 2) true 22 1,.v (.c 1 0) T3,.v (.c 2 0) T22]] (by kernel_rfl)
noncomputable def qiY(n:Nat):CL Tryz.prog:=⟨[],[qc4 n],0,nof⟩
def qlI(n:Nat):LK Tryz.prog false:=mkL tab (qiY n) [] Tryz.f56 [true,true,true,true,false,true,false,false] 0 n [.v (.t 7) T3,.v (.t 19) T22,.v (.t 20) T3,.v (.t 21) T3,.obj (.t 2) false 3 1,.v (.c 0 0) T3,.obj (.t 3) false 22 1,.v (.c 1 0) T22,.row (.t 5) false T3 3,.row (.t 6) false T3 3] [(.exit 0,[.v (.t 7) T3,.obj (.t 2) false 3 1,.v (.c 0 0) T3,.obj (.t 3) false 22 1,.v (.c 1 0) T22,.row (.t 5) false T3 3,.row (.t 6) false T3 3])] (by kernel_rfl)
def qlJ(n:Nat):LK Tryz.prog false:=mkL tab (qiY n) [] Tryz.f56 [true,true,true,true,true,true,false,true,false,false] 1 n [.v (.t 50) T3,.v (.t 51) T3,.row (.t 5) false T3 3,.row (.t 6) false T3 3,.sub (.t 49) 1] [(.exit 2,[.row (.t 5) false T3 3])] (by kernel_rfl)
def qjF(n:Nat):Ct Tryz.prog:=mkC tab (qiY n) [qlI n,qlJ n] Tryz.func56 [.d T3,.d T22] [T22] (by kernel_rfl)
noncomputable def qif(n:Nat):CL Tryz.prog:=⟨[qjF n],[],0,nof⟩
def qmw(n:Nat):LK Tryz.prog false:=mkL tab (qif n) [] Tryz.f60 [true,false,false] 0 n [.v (.t 2) T3,.v (.t 19) T22,.v (.t 20) T3,.v (.t 21) T3,.obj (.t 3) true 83 1,.obj (.c 0 0) true 88 14,.v (.c 1 0) T88,.obj (.t 4) true 22 1,.row (.c 2 0) true T3 3] [(.exit 0,[.obj (.t 3) true 83 1,.obj (.c 0 0) true 88 14,.v (.c 1 0) T88,.obj (.t 4) true 22 1,.row (.c 2 0) true T3 3])] (by kernel_rfl)
def qmP(n:Nat):Cw Tryz.prog:=mkW tab (qif n) [qmw n] Tryz.func60 [.v (.t 0) T3,.v (.t 1) T3,.v (.t 2) T3,.obj (.t 3) true 83 1,.obj (.c 0 0) true 88 14,.v (.c 1 0) T88,.obj (.t 4) true 22 1,.row (.c 2 0) true T3 3] 5 [[.obj (.t 0) true 83 1,.obj (.c 0 0) true 88 14,.v (.c 1 0) T88,.obj (.t 2) true 22 1,.row (.c 2 0) true T3 3]] (by kernel_rfl)
noncomputable def qf4(n:Nat):CL Tryz.prog:=⟨[],[qjE n,qmv n,qmP n],2,nof⟩
def qod(n:Nat):LK Tryz.prog false:=mkL tab (qf4 n) [] Tryz.f31 [true,true,true,true,true,true,false,true,false,false,true,true,false,false,true,true,false,false] 1 n [.v (.t 6) T3,.v (.t 7) T3,.v (.t 48) T35,.v (.t 49) T3,.v (.t 50) T3,.v (.t 55) T89,.v (.t 56) T3,.v (.t 57) T3,.obj (.t 4) false 83 1,.obj (.c 0 0) false 88 14,.v (.c 1 0) T88,.obj (.t 8) false 22 1,.row (.c 2 0) false T3 3,.obj (.t 11) false 91 5,.v (.c 4 0) T91,.fnc (.t 9) 60 [.al 0,.al 2]] [(.exit 2,[.v (.t 6) T3,.v (.t 7) T3,.v (.t 48) T35,.v (.t 49) T3,.v (.t 50) T3,.obj (.t 4) false 83 1,.obj (.c 0 0) false 88 14,.v (.c 1 0) T88,.obj (.t 8) false 22 1,.row (.c 2 0) false T3 3,.fnc (.t 9) 60 [.al 0,.al 2]])] (by kernel_rfl)
def qjO(n:Nat):LK Tryz.prog false:=mkL tab (qf4 n) [qod n] Tryz.f31 [true,true,true,true,true,true,false,true,false,false] 0 n [.v (.t 6) T3,.v (.t 7) T3,.v (.t 48) T35,.v (.t 49) T3,.v (.t 50) T3,.obj (.t 4) false 83 1,.obj (.c 0 0) false 88 14,.v (.c 1 0) T88,.obj (.t 8) false 22 1,.row (.c 2 0) false T3 3,.fnc (.t 9) 60 [.al 0,.al 2]] [(.exit 0,[.obj (.t 4) false 83 1,.obj (.c 0 0) false 88 14,.v (.c 1 0) T88,.obj (.t 8) false 22 1,.row (.c 2 0) false T3 3,.fnc (.t 9) 60 [.al 0,.al 2]])] (by kernel_rfl)
def qjP(n:Nat):LK Tryz.prog false:=mkL tab (qf4 n) [] Tryz.f31 [true,true,true,true,true,true,true,false,true,false,false] 2 n [.v (.t 95) T39,.v (.t 96) T3,.v (.t 97) T3,.obj (.t 4) false 83 1,.obj (.c 0 0) false 88 14,.v (.c 1 0) T88,.obj (.t 8) false 22 1,.row (.c 2 0) false T3 3,.fnc (.t 9) 60 [.al 0,.al 2]] [(.exit 4,[.obj (.t 8) false 22 1,.row (.c 0 0) false T3 3])] (by kernel_rfl)
def qkt(n:Nat):Ct Tryz.prog:=mkC tab (qf4 n) [qjO n,qjP n] Tryz.func31 [.d T41] [T22,T24] (by kernel_rfl)
end
noncomputable section
noncomputable def qla(n:Nat):CL Tryz.prog:=⟨[],[],0,nof⟩
def qga(n:Nat):Ct Tryz.prog:=mkC tab (qla n) [] Tryz.func44 [.d T3,.d T3,.d T3] [T4] (by kernel_rfl)
noncomputable def qgX(n:Nat):CL Tryz.prog:=⟨[qga n],[],0,nof⟩
def qgY(n:Nat):LK Tryz.prog false:=mkL tab (qgX n) [] Tryz.f28 [true,true,false,true,false,false] 0 n [.v (.t 0) T22,.v (.t 3) T3,.v (.t 4) T3] [(.exit 0,[.v (.t 0) T22,.v (.t 3) T3]),(.ret,[.v (.t 2) T4])] (by kernel_rfl)
def qhd(n:Nat):Ct Tryz.prog:=mkC tab (qgX n) [qgY n] Tryz.func28 [.d T22] [T4] (by kernel_rfl)
noncomputable def qky(n:Nat):CL Tryz.prog:=⟨[qk5 n],[],0,nof⟩
def qhE(n:Nat):Ct Tryz.prog:=mkC tab (qky n) [] Tryz.func38 [] [T41] (by kernel_rfl)
end
end Go.Proofs.YtlmicgmhallkkaaGreatDoor
/- The contract of math/bits.TrailingZeros, by hand: it reads a table that is a package variable. -/
namespace Go.Proofs.YtlmicgmhallkkaaGreatDoor
open Go Go.Proofs Go.RowKit Go.Shelf
set_option maxHeartbeats 800000
attribute [local go_sem] Oper.semAt_some
def tz(s:Nat):Nat:=if s % 2=1 then 0 else if s % 4=2 then 1 else if s % 8=4 then 2 else if s % 16=8 then 3 else if s % 32=16 then 4 else if s % 64=32 then 5 else if s % 128=64 then 6 else 7
theorem qq4(s:Nat):tz s<8:=by unfold tz;repeat' split<;>try omega
def jj(k:Nat):Nat:=2 ^ k*285870213051353865 % 18446744073709551616/288230376151711744
theorem qwW(k:Nat)(hk:k<8):jj k<64:=by revert k;decide +kernel
theorem qwz(s:Nat):s<256→0<s→bits BinOp.and IntKind.u64 (s:Int) (IntKind.u64.wrap (-(s:Int)))=((2 ^ tz s:Nat):Int):=by
 revert s;decide +kernel
theorem quf(k:Nat):k<8→IntKind.u64.wrap (((2 ^ k:Nat):Int)*285870213051353865)/288230376151711744=((jj k:Nat):Int):=by
 revert k;decide +kernel
theorem qvq(s:Nat)(hs:s<256)(h0:0<s):IntKind.u64.wrap (bits BinOp.and IntKind.u64 (s:Int) (IntKind.u64.wrap (-(s:Int)))*285870213051353865)/288230376151711744=((jj (tz s):Nat):Int):=by
 rw[qwz s hs h0];exact quf _ (qq4 s)
def qtf(w:World):Prop:=1<w.heap.size∧∀k,k<8→w.cell? ⟨1,jj k,none⟩=some (.int .u8 (k:Int))
theorem qug(s k idx:Nat)(w:World)(hs0:((s:Int)==0)=false)
  (hE:IntKind.u64.wrap (bits BinOp.and IntKind.u64 (s:Int) (IntKind.u64.wrap (-(s:Int)))*285870213051353865)/288230376151711744=(idx:Int))
  (hj:idx<64) (hk:k<8) (hc:w.cell? ⟨1,idx,none⟩=some (.int .u8 (k:Int))) :
  Calls Tryz.prog 125 #[.int .u64 s] w fun e w'=>e = .returned (.int .i64 k)∧w=w':=by
 go_enter Tryz.func125,Tryz.ntmps125
 go_wp2_with fail
 go_ret
 exact ⟨rfl,rfl⟩
theorem qvr(s:Nat)(w:World)(hs:s<256)(h0:0<s)(ht:qtf w):Calls Tryz.prog 125 #[.int .u64 s] w fun e w'=>e = .returned (.int .i64 (tz s))∧w=w' :=
 qug s (tz s) (jj (tz s)) w (by simp;omega) (qvq s hs h0) (qwW (tz s) (qq4 s)) (qq4 s) (ht.2 (tz s) (qq4 s))
theorem qwd(s:Nat)(w:World)(hs:s<256)(h0:0<s)(ht:qtf w):Calls Tryz.prog 84 #[.int .u64 s] w fun e w'=>e = .returned (.int .i64 (tz s))∧w=w':=by
 have hs0:(0:Int)≤s:=by omega
 go_enter Tryz.func84,Tryz.ntmps84
 go_wp2_with (go_at_call 125;refine (qvr _ _ hs h0 ht).mono ?_;rintro e w1 ⟨rfl,rfl⟩)
 go_ret
 exact ⟨rfl,rfl⟩
theorem quh:∀k,k<8→(1,(jj k,Value.int .u8 (k:Int)))∈gTab
 | 0,_=>List.mem_of_getElem? (i:=0) rfl
 | 1,_=>List.mem_of_getElem? (i:=1) rfl
 | 2,_=>List.mem_of_getElem? (i:=2) rfl
 | 3,_=>List.mem_of_getElem? (i:=3) rfl
 | 4,_=>List.mem_of_getElem? (i:=4) rfl
 | 5,_=>List.mem_of_getElem? (i:=5) rfl
 | 6,_=>List.mem_of_getElem? (i:=6) rfl
 | 7,_=>List.mem_of_getElem? (i:=7) rfl
 | k+8,h=>absurd h (by omega)
theorem qvs{w:World}(h:Gl w):qtf w:=⟨h.lt (quh 0 (by decide)),fun k hk=>h _ (quh k hk)⟩
def tzB(x:Int):Bool:=decide (0<x)&&decide (x<256)
noncomputable def tz_M(n:Nat)(x:qdB [.d (.i .u64)]):Option (qA [.i .i64]):=cond (tzB x.1) (some ((tz (Int.toNat x.1):Int),())) none
noncomputable def tz_C(n:Nat):Ct Tryz.prog:=⟨84,[.d (.i .u64)],.ts [.i .i64],tz_M n,fun x y h=>by
 obtain ⟨z,u⟩:=x
 change Int at z
 unfold tz_M at h
 cases hc:tzB z with
 | false=>simp only[hc,cond_false] at h;cases h
 | true =>
  simp only[hc,cond_true] at h
  injection h with h
  subst h
  unfold tzB at hc
  simp only[Bool.and_eq_true,decide_eq_true_eq] at hc
  obtain ⟨s,hs⟩:=Int.eq_ofNat_of_zero_le (show 0≤z by omega)
  subst hs
  refine ⟨enters_of (c:=qo Tryz.f84) Tryz.func84 (by kernel_rfl) (by kernel_rfl),fun w S vs hG hn henc=>?_⟩
  have h0:=henc 0 (.val (.int .u64 s)) rfl
  obtain ⟨v,rfl⟩:∃v,vs = #[v]:=by
   obtain ⟨l⟩:=vs
   match l,hn with
   | [v],_=>exact ⟨v,rfl⟩
  have h1:v = .int .u64 s:=h0.val_eq
  subst h1
  refine (qwd s w (by omega) (by omega) (qvs hG)).mono fun e w' ⟨e1,e2⟩=>?_
  subst e2
  exact ⟨Ext.refl _,_,e1,.val _⟩⟩
noncomputable section
noncomputable def qe5(n:Nat):CL Tryz.prog:=⟨[],[],0,fun _=>false⟩
noncomputable def qhe(n:Nat):Nat→St→PT (DEx×St):=fun _ _=>.fail
theorem qkz(n:Nat):qJ (qe5 n).c (qo Tryz.f48) 0=[]:=by kernel_rfl
theorem qkA:Tryz.f48.body=some (qo Tryz.f48):=by kernel_rfl
abbrev qe6:List It:=[.raw (.t 0)]
abbrev qeB:List (List It):=[[.row (.t 0) false T3 3]]
noncomputable def qdA(n:Nat)(x:qc qe6):Option (qV qeB):=runW tab (qe5 n) (qhe n) (qo Tryz.f48) qe6 1 8 [.tmp 2] qeB x
noncomputable def qkB(n:Nat):Cw Tryz.prog:=⟨48,1,qe6,1,qeB,qdA n,fun _ _ h=>qhz (B:=tab) (cs:=qe5 n) (lo:=qhe n) (rs:=[.tmp 2]) Tryz.func48 (by kernel_rfl) qkA (by kernel_rfl) (by decide) (qgo (qkz n) qdH) h⟩
noncomputable def qgu(n:Nat):CL Tryz.prog:=⟨[],[],0,fun _=>false⟩
noncomputable def qig(n:Nat):Nat→St→PT (DEx×St):=fun _ _=>.fail
theorem qmQ(n:Nat):qJ (qgu n).c (qo Tryz.f48) 0=[]:=by kernel_rfl
theorem qmR:Tryz.f48.body=some (qo Tryz.f48):=by kernel_rfl
abbrev qgv:List It:=[.v (.t 0) T22]
abbrev qeh:List (List It):=[[.row (.t 0) false T3 3]]
noncomputable def qiy(n:Nat)(x:qc qgv):Option (qV qeh):=runW tab (qgu n) (qig n) (qo Tryz.f48) qgv 1 8 [.tmp 2] qeh x
noncomputable def qmS(n:Nat):Cw Tryz.prog:=⟨48,1,qgv,1,qeh,qiy n,fun _ _ h=>qhz (B:=tab) (cs:=qgu n) (lo:=qig n) (rs:=[.tmp 2]) Tryz.func48 (by kernel_rfl) qmR (by kernel_rfl) (by decide) (qgo (qmQ n) qdH) h⟩
end
theorem qmT(n:Nat)(c:Nat):qdA n (.slice none 0 c,())=some ([],()):=by kernel_rfl
theorem qmU(n:Nat)(a:Addr)(c:Nat):qdA n (.slice (some a) 0 c,())=some ([],()):=by kernel_rfl
noncomputable def qiz(n:Nat):Cw Tryz.prog:=qsJ 48 T3 qeh (qdA n) (qiy n) ([],()) (fun v y m0 h=>(qkB n).okk (x:=(v,())) (y:=y) h m0 (qmr m0)) (fun l y m0 h=>(qmS n).okk (x:=(l,())) (y:=y) h m0 (qmr m0)) (fun A c=>by cases A with | none=>exact qmT n c | some a=>exact qmU n a c)
noncomputable def qmV(n:Nat):=(qiz n).M
noncomputable section
noncomputable def qhu(n:Nat):CL Tryz.prog:=⟨[],[],0,nof⟩
def qkC(n:Nat):LK Tryz.prog false:=mkL tab (qhu n) [] Tryz.f90 [true,false,true,false,false] 0 n [.v (.t 1) T3,.v (.t 11) T37,.v (.t 12) T3,.v (.t 13) T3,.obj (.t 0) true 88 14,.v (.c 0 0) T34,.v (.c 0 2) T35,.v (.c 0 3) T3,.row (.c 0 4) true T3 3,.v (.c 0 5) T36,.v (.c 0 6) T37,.v (.c 0 7) T38,.v (.c 0 8) T39,.v (.c 0 9) T3,.v (.c 0 10) T3,.v (.c 0 11) T3,.v (.c 0 12) T3,.v (.c 0 13) T35,.obj (.t 4) false 112 3,.v (.c 2 0) T112] [(.exit 0,[.v (.t 1) T3,.obj (.t 0) true 88 14,.v (.c 0 0) T34,.v (.c 0 2) T35,.v (.c 0 3) T3,.row (.c 0 4) true T3 3,.v (.c 0 5) T36,.v (.c 0 6) T37,.v (.c 0 7) T38,.v (.c 0 8) T39,.v (.c 0 9) T3,.v (.c 0 10) T3,.v (.c 0 11) T3,.v (.c 0 12) T3,.v (.c 0 13) T35,.obj (.t 4) false 112 3,.v (.c 2 0) T112]),(.ret,[.obj (.t 0) true 88 14,.v (.c 0 0) T34,.v (.c 0 2) T35,.v (.c 0 3) T3,.row (.c 0 4) true T3 3,.v (.c 0 5) T36,.v (.c 0 6) T37,.v (.c 0 7) T38,.v (.c 0 8) T39,.v (.c 0 9) T3,.v (.c 0 10) T3,.v (.c 0 11) T3,.v (.c 0 12) T3,.v (.c 0 13) T35,.obj (.t 4) false 112 3,.v (.c 2 0) T112])] (by kernel_rfl)
def qlb(n:Nat):Cw Tryz.prog:=mkW tab (qhu n) [qkC n] Tryz.func90 [.v (.t 1) T3,.obj (.t 0) true 88 14,.v (.c 0 0) T34,.v (.c 0 2) T35,.v (.c 0 3) T3,.row (.c 0 4) true T3 3,.v (.c 0 5) T36,.v (.c 0 6) T37,.v (.c 0 7) T38,.v (.c 0 8) T39,.v (.c 0 9) T3,.v (.c 0 10) T3,.v (.c 0 11) T3,.v (.c 0 12) T3,.v (.c 0 13) T35] 2 [[.v (.t 0) T112,.obj (.t 1) true 88 14,.v (.c 0 0) T34,.v (.c 0 2) T35,.v (.c 0 3) T3,.row (.c 0 4) true T3 3,.v (.c 0 5) T36,.v (.c 0 6) T37,.v (.c 0 7) T38,.v (.c 0 8) T39,.v (.c 0 9) T3,.v (.c 0 10) T3,.v (.c 0 11) T3,.v (.c 0 12) T3,.v (.c 0 13) T35]] (by kernel_rfl)
noncomputable def qlc(n:Nat):CL Tryz.prog:=⟨[],[],0,nof⟩
def qhT(n:Nat):Cw Tryz.prog:=mkW tab (qlc n) [] Tryz.func128 [.v (.t 1) T3,.v (.t 2) T3,.obj (.t 0) true 88 14,.v (.c 0 0) T34,.v (.c 0 2) T35,.v (.c 0 3) T3,.row (.c 0 4) true T3 3,.v (.c 0 5) T36,.v (.c 0 6) T37,.v (.c 0 7) T38,.v (.c 0 8) T39,.v (.c 0 9) T3,.v (.c 0 10) T3,.v (.c 0 11) T3,.v (.c 0 12) T3,.v (.c 0 13) T35] 3 [[.v (.t 0) T4,.obj (.t 1) true 88 14,.v (.c 0 0) T34,.v (.c 0 2) T35,.v (.c 0 3) T3,.row (.c 0 4) true T3 3,.v (.c 0 5) T36,.v (.c 0 6) T37,.v (.c 0 7) T38,.v (.c 0 8) T39,.v (.c 0 9) T3,.v (.c 0 10) T3,.v (.c 0 11) T3,.v (.c 0 12) T3,.v (.c 0 13) T35]] (by kernel_rfl)
noncomputable def qiZ(n:Nat):CL Tryz.prog:=⟨[],[qhT n],0,nof⟩
def qgh(n:Nat):Cw Tryz.prog:=mkW tab (qiZ n) [] Tryz.func129 [.v (.t 0) T64,.obj (.t 1) true 3 1,.v (.c 0 0) T3,.obj (.t 2) true 83 1,.obj (.c 1 0) true 88 14,.v (.c 2 0) T34,.v (.c 2 2) T35,.v (.c 2 3) T3,.row (.c 2 4) true T3 3,.v (.c 2 5) T36,.v (.c 2 6) T37,.v (.c 2 7) T38,.v (.c 2 8) T39,.v (.c 2 9) T3,.v (.c 2 10) T3,.v (.c 2 11) T3,.v (.c 2 12) T3,.v (.c 2 13) T35,.obj (.t 3) true 3 1,.v (.c 4 0) T3] 4 [[.v (.t 0) T4,.obj (.t 1) true 3 1,.v (.c 0 0) T3,.obj (.t 2) true 83 1,.obj (.c 1 0) true 88 14,.v (.c 2 0) T34,.v (.c 2 2) T35,.v (.c 2 3) T3,.row (.c 2 4) true T3 3,.v (.c 2 5) T36,.v (.c 2 6) T37,.v (.c 2 7) T38,.v (.c 2 8) T39,.v (.c 2 9) T3,.v (.c 2 10) T3,.v (.c 2 11) T3,.v (.c 2 12) T3,.v (.c 2 13) T35,.obj (.t 5) true 3 1,.v (.c 4 0) T3]] (by kernel_rfl)
noncomputable def qbX(n:Nat):CL Tryz.prog:=⟨[],[qgh n],0,nof⟩
def qd8(n:Nat):LK Tryz.prog false:=mkL tab (qbX n) [] Tryz.f145 [true,false,true,false,false] 0 n [.v (.t 0) T38,.v (.t 7) T3,.v (.t 8) T3,.fnc (.t 1) 129 [.box true 3 1,.box true 83 1,.box true 3 1],.v (.c 0 0) T3,.obj (.c 1 0) true 88 14,.v (.c 3 0) T34,.v (.c 3 2) T35,.v (.c 3 3) T3,.row (.c 3 4) true T3 3,.v (.c 3 5) T36,.v (.c 3 6) T37,.v (.c 3 7) T38,.v (.c 3 8) T39,.v (.c 3 9) T3,.v (.c 3 10) T3,.v (.c 3 11) T3,.v (.c 3 12) T3,.v (.c 3 13) T35,.v (.c 2 0) T3] [(.exit 0,[.fnc (.t 1) 129 [.box true 3 1,.box true 83 1,.box true 3 1],.v (.c 0 0) T3,.obj (.c 1 0) true 88 14,.v (.c 3 0) T34,.v (.c 3 2) T35,.v (.c 3 3) T3,.row (.c 3 4) true T3 3,.v (.c 3 5) T36,.v (.c 3 6) T37,.v (.c 3 7) T38,.v (.c 3 8) T39,.v (.c 3 9) T3,.v (.c 3 10) T3,.v (.c 3 11) T3,.v (.c 3 12) T3,.v (.c 3 13) T35,.v (.c 2 0) T3]),(.ret,[.v (.t 4) T3,.fnc (.t 1) 129 [.box true 3 1,.box true 83 1,.box true 3 1],.v (.c 0 0) T3,.obj (.c 1 0) true 88 14,.v (.c 3 0) T34,.v (.c 3 2) T35,.v (.c 3 3) T3,.row (.c 3 4) true T3 3,.v (.c 3 5) T36,.v (.c 3 6) T37,.v (.c 3 7) T38,.v (.c 3 8) T39,.v (.c 3 9) T3,.v (.c 3 10) T3,.v (.c 3 11) T3,.v (.c 3 12) T3,.v (.c 3 13) T35,.v (.c 2 0) T3])] (by kernel_rfl)
def qec(n:Nat):Cw Tryz.prog:=mkW tab (qbX n) [qd8 n] Tryz.func145 [.v (.t 0) T38,.fnc (.t 1) 129 [.box true 3 1,.box true 83 1,.box true 3 1],.v (.c 0 0) T3,.obj (.c 1 0) true 88 14,.v (.c 3 0) T34,.v (.c 3 2) T35,.v (.c 3 3) T3,.row (.c 3 4) true T3 3,.v (.c 3 5) T36,.v (.c 3 6) T37,.v (.c 3 7) T38,.v (.c 3 8) T39,.v (.c 3 9) T3,.v (.c 3 10) T3,.v (.c 3 11) T3,.v (.c 3 12) T3,.v (.c 3 13) T35,.v (.c 2 0) T3] 2 [[.v (.t 0) T3,.obj (.t 1) true 3 1,.obj (.t 2) true 83 1,.obj (.t 3) true 3 1,.v (.c 0 0) T3,.obj (.c 1 0) true 88 14,.v (.c 3 0) T34,.v (.c 3 2) T35,.v (.c 3 3) T3,.row (.c 3 4) true T3 3,.v (.c 3 5) T36,.v (.c 3 6) T37,.v (.c 3 7) T38,.v (.c 3 8) T39,.v (.c 3 9) T3,.v (.c 3 10) T3,.v (.c 3 11) T3,.v (.c 3 12) T3,.v (.c 3 13) T35,.v (.c 2 0) T3]] (by kernel_rfl)
noncomputable def qdC(n:Nat):CL Tryz.prog:=⟨[],[qep n,qgh n,qec n],0,nof⟩
def qdM(n:Nat):Cw Tryz.prog:=mkW tab (qdC n) [] Tryz.func109 [.v (.t 0) T38,.fnc (.t 1) 129 [.box true 3 1,.box true 83 1,.box true 3 1],.v (.c 0 0) T3,.obj (.c 1 0) true 88 14,.v (.c 3 0) T34,.v (.c 3 2) T35,.v (.c 3 3) T3,.row (.c 3 4) true T3 3,.v (.c 3 5) T36,.v (.c 3 6) T37,.v (.c 3 7) T38,.v (.c 3 8) T39,.v (.c 3 9) T3,.v (.c 3 10) T3,.v (.c 3 11) T3,.v (.c 3 12) T3,.v (.c 3 13) T35,.v (.c 2 0) T3] 2 [[.v (.t 0) T4,.obj (.t 1) true 3 1,.obj (.t 2) true 83 1,.obj (.t 3) true 3 1,.v (.c 0 0) T3,.obj (.c 1 0) true 88 14,.v (.c 3 0) T34,.v (.c 3 2) T35,.v (.c 3 3) T3,.row (.c 3 4) true T3 3,.v (.c 3 5) T36,.v (.c 3 6) T37,.v (.c 3 7) T38,.v (.c 3 8) T39,.v (.c 3 9) T3,.v (.c 3 10) T3,.v (.c 3 11) T3,.v (.c 3 12) T3,.v (.c 3 13) T35,.v (.c 2 0) T3]] (by kernel_rfl)
noncomputable def qjG(n:Nat):CL Tryz.prog:=⟨[],[qdM n,qhT n],0,nof⟩
def qj4(n:Nat):Cw Tryz.prog:=mkW tab (qjG n) [] Tryz.func91 [.v (.t 1) T3,.v (.t 2) T3,.obj (.t 0) true 88 14,.v (.c 0 0) T34,.v (.c 0 2) T35,.v (.c 0 3) T3,.row (.c 0 4) true T3 3,.v (.c 0 5) T36,.v (.c 0 6) T37,.v (.c 0 7) T38,.v (.c 0 8) T39,.v (.c 0 9) T3,.v (.c 0 10) T3,.v (.c 0 11) T3,.v (.c 0 12) T3,.v (.c 0 13) T35] 3 [[.v (.t 0) T4,.obj (.t 1) true 88 14,.v (.c 0 0) T34,.v (.c 0 2) T35,.v (.c 0 3) T3,.row (.c 0 4) true T3 3,.v (.c 0 5) T36,.v (.c 0 6) T37,.v (.c 0 7) T38,.v (.c 0 8) T39,.v (.c 0 9) T3,.v (.c 0 10) T3,.v (.c 0 11) T3,.v (.c 0 12) T3,.v (.c 0 13) T35]] (by kernel_rfl)
noncomputable def qld(n:Nat):CL Tryz.prog:=⟨[qpJ n],[qlb n,qj4 n],0,nof⟩
def qlK(n:Nat):Cw Tryz.prog:=mkW tab (qld n) [] Tryz.func50 [.v (.t 1) T91,.v (.t 2) T95,.obj (.t 0) true 88 14,.v (.c 0 0) T34,.v (.c 0 2) T35,.v (.c 0 3) T3,.row (.c 0 4) true T3 3,.v (.c 0 5) T36,.v (.c 0 6) T37,.v (.c 0 7) T38,.v (.c 0 8) T39,.v (.c 0 9) T3,.v (.c 0 10) T3,.v (.c 0 11) T3,.v (.c 0 12) T3,.v (.c 0 13) T35] 3 [[.v (.t 0) T3,.v (.t 1) T3,.obj (.t 2) true 88 14,.v (.c 0 0) T34,.v (.c 0 2) T35,.v (.c 0 3) T3,.row (.c 0 4) true T3 3,.v (.c 0 5) T36,.v (.c 0 6) T37,.v (.c 0 7) T38,.v (.c 0 8) T39,.v (.c 0 9) T3,.v (.c 0 10) T3,.v (.c 0 11) T3,.v (.c 0 12) T3,.v (.c 0 13) T35]] (by kernel_rfl)
noncomputable def qhf(n:Nat):CL Tryz.prog:=⟨[],[qlK n],0,nof⟩
def qny(n:Nat):LK Tryz.prog false:=mkL tab (qhf n) [] Tryz.f49 [true,true,true,false,true,false,false,true,true,false,false,true,true,false,false] 1 n [.v (.t 6) T3,.v (.t 24) T35,.v (.t 25) T3,.v (.t 26) T3,.v (.t 31) T89,.v (.t 32) T3,.v (.t 33) T3,.obj (.t 1) true 83 1,.obj (.c 0 0) true 88 14,.v (.c 1 0) T34,.v (.c 1 2) T35,.v (.c 1 3) T3,.row (.c 1 4) true T3 3,.v (.c 1 5) T36,.v (.c 1 6) T37,.v (.c 1 7) T38,.v (.c 1 8) T39,.v (.c 1 9) T3,.v (.c 1 10) T3,.v (.c 1 11) T3,.v (.c 1 12) T3,.v (.c 1 13) T35,.obj (.t 2) true 3 1,.v (.c 3 0) T3,.obj (.t 3) true 3 1,.v (.c 4 0) T3,.obj (.t 8) false 91 5,.v (.c 5 0) T91] [(.exit 2,[.v (.t 6) T3,.v (.t 24) T35,.v (.t 25) T3,.v (.t 26) T3,.obj (.t 1) true 83 1,.obj (.c 0 0) true 88 14,.v (.c 1 0) T34,.v (.c 1 2) T35,.v (.c 1 3) T3,.row (.c 1 4) true T3 3,.v (.c 1 5) T36,.v (.c 1 6) T37,.v (.c 1 7) T38,.v (.c 1 8) T39,.v (.c 1 9) T3,.v (.c 1 10) T3,.v (.c 1 11) T3,.v (.c 1 12) T3,.v (.c 1 13) T35,.obj (.t 2) true 3 1,.v (.c 3 0) T3,.obj (.t 3) true 3 1,.v (.c 4 0) T3])] (by kernel_rfl)
def qnz(n:Nat):LK Tryz.prog false:=mkL tab (qhf n) [qny n] Tryz.f49 [true,true,true,false,true,false,false] 0 n [.v (.t 6) T3,.v (.t 24) T35,.v (.t 25) T3,.v (.t 26) T3,.obj (.t 1) true 83 1,.obj (.c 0 0) true 88 14,.v (.c 1 0) T34,.v (.c 1 2) T35,.v (.c 1 3) T3,.row (.c 1 4) true T3 3,.v (.c 1 5) T36,.v (.c 1 6) T37,.v (.c 1 7) T38,.v (.c 1 8) T39,.v (.c 1 9) T3,.v (.c 1 10) T3,.v (.c 1 11) T3,.v (.c 1 12) T3,.v (.c 1 13) T35,.obj (.t 2) true 3 1,.v (.c 3 0) T3,.obj (.t 3) true 3 1,.v (.c 4 0) T3] [(.exit 0,[.v (.t 6) T3,.obj (.t 1) true 83 1,.obj (.c 0 0) true 88 14,.v (.c 1 0) T34,.v (.c 1 2) T35,.v (.c 1 3) T3,.row (.c 1 4) true T3 3,.v (.c 1 5) T36,.v (.c 1 6) T37,.v (.c 1 7) T38,.v (.c 1 8) T39,.v (.c 1 9) T3,.v (.c 1 10) T3,.v (.c 1 11) T3,.v (.c 1 12) T3,.v (.c 1 13) T35,.obj (.t 2) true 3 1,.v (.c 3 0) T3,.obj (.t 3) true 3 1,.v (.c 4 0) T3])] (by kernel_rfl)
def qjQ(n:Nat):Cw Tryz.prog:=mkW tab (qhf n) [qnz n] Tryz.func49 [.v (.t 0) T3,.obj (.t 1) true 83 1,.obj (.c 0 0) true 88 14,.v (.c 1 0) T34,.v (.c 1 2) T35,.v (.c 1 3) T3,.row (.c 1 4) true T3 3,.v (.c 1 5) T36,.v (.c 1 6) T37,.v (.c 1 7) T38,.v (.c 1 8) T39,.v (.c 1 9) T3,.v (.c 1 10) T3,.v (.c 1 11) T3,.v (.c 1 12) T3,.v (.c 1 13) T35,.obj (.t 2) true 3 1,.v (.c 3 0) T3,.obj (.t 3) true 3 1,.v (.c 4 0) T3] 4 [[.v (.t 0) T4,.obj (.t 1) true 83 1,.obj (.c 0 0) true 88 14,.v (.c 1 0) T34,.v (.c 1 2) T35,.v (.c 1 3) T3,.row (.c 1 4) true T3 3,.v (.c 1 5) T36,.v (.c 1 6) T37,.v (.c 1 7) T38,.v (.c 1 8) T39,.v (.c 1 9) T3,.v (.c 1 10) T3,.v (.c 1 11) T3,.v (.c 1 12) T3,.v (.c 1 13) T35,.obj (.t 4) true 3 1,.v (.c 3 0) T3,.obj (.t 5) true 3 1,.v (.c 4 0) T3]] (by kernel_rfl)
noncomputable def qlL(n:Nat):CL Tryz.prog:=⟨[qca n],[qjE n,qiz n,qjQ n],2,nof⟩
def qlM(n:Nat):LK Tryz.prog false:=mkL tab (qlL n) [] Tryz.f19 [true,true,true,true,true,true,true,true,false,false,false] 0 n [.v (.t 11) T3,.v (.t 12) T3,.obj (.t 4) false 3 1,.v (.c 0 0) T3,.obj (.t 5) false 3 1,.v (.c 1 0) T3,.obj (.t 8) false 83 1,.obj (.c 2 0) false 88 14,.v (.c 3 0) T34,.v (.c 3 2) T35,.v (.c 3 3) T3,.row (.c 3 4) false T3 3,.v (.c 3 5) T36,.v (.c 3 6) T37,.v (.c 3 7) T38,.v (.c 3 8) T39,.v (.c 3 9) T3,.v (.c 3 10) T3,.v (.c 3 11) T3,.v (.c 3 12) T3,.v (.c 3 13) T35,.fnc (.t 10) 49 [.al 2,.al 0,.al 1]] [(.exit 0,[.v (.t 12) T3])] (by kernel_rfl)
def qmI(n:Nat):Ct Tryz.prog:=mkC tab (qlL n) [qlM n] Tryz.func19 [.d T41,.d T3,.d T3] [T3,T24] (by kernel_rfl)
end
noncomputable section
noncomputable def qlN(n:Nat):CL Tryz.prog:=⟨[qca n],[],0,nof⟩
def qqa(n:Nat):LK Tryz.prog false:=mkL tab (qlN n) [] Tryz.f40 [true,true,true,false,true,false,false] 0 n [.v (.t 0) T22,.v (.t 4) T3,.v (.t 10) T22,.v (.t 11) T3,.v (.t 12) T3] [(.exit 0,[.v (.t 0) T22,.v (.t 4) T3]),(.ret,[.v (.t 2) T72,.v (.t 3) T24])] (by kernel_rfl)
def qqX(n:Nat):Ct Tryz.prog:=mkC tab (qlN n) [qqa n] Tryz.func40 [.d T22] [T72,T24] (by kernel_rfl)
noncomputable def qih(n:Nat):CL Tryz.prog:=⟨[],[],0,nof⟩
def qmx(n:Nat):LK Tryz.prog false:=mkL tab (qih n) [] Tryz.f42 [true,false,true,false,false] 0 n [.v (.t 2) T70,.v (.t 5) T72,.v (.t 6) T3,.v (.t 7) T3] [(.exit 0,[.v (.t 2) T70])] (by kernel_rfl)
def qmW(n:Nat):Ct Tryz.prog:=mkC tab (qih n) [qmx n] Tryz.func42 [.d T72] [T70] (by kernel_rfl)
noncomputable def qiA(n:Nat):CL Tryz.prog:=⟨[tz_C n],[],0,nof⟩
def qmX(n:Nat):LK Tryz.prog false:=mkL tab (qiA n) [] Tryz.f83 [true,false,false,false] 0 n [.v (.t 0) T72,.v (.t 1) T70,.v (.t 4) T3] [(.exit 0,[.v (.t 4) T3])] (by kernel_rfl)
def qnA(n:Nat):Ct Tryz.prog:=mkC tab (qiA n) [qmX n] Tryz.func83 [.d T72,.d T70] [T3] (by kernel_rfl)
abbrev qn:List It:=[.v (.t 0) T70,.obj (.t 1) true 133 1,.mpi (.c 0 0) true T70 T75,.obj (.t 2) true 72 1,.v (.c 2 0) T72,.obj (.t 3) true 76 1,.fnc (.c 3 0) 82 [.al 0,.al 2,.al 3]]
abbrev qm:List (List It):=[[.v (.t 0) T75,.obj (.t 1) true 133 1,.mpi (.c 0 0) true T70 T75,.obj (.t 3) true 72 1,.v (.c 2 0) T72,.obj (.t 4) true 76 1,.fnc (.c 3 0) 82 [.al 0,.al 2,.al 3]]]
abbrev qf:Type:={g:qc qn→Option (qV qm) // qkT Tryz.prog 82 4 qn 1 qm g}
noncomputable def qz(n:Nat)(g:qf):CL Tryz.prog:=⟨[qnA n],[⟨82,4,qn,1,qm,g.1,g.2⟩],0,fun _=>false⟩
noncomputable def qcx(n:Nat)(g:qf):Nat→St→PT (DEx×St):=fun _ _=>.fail
abbrev qE:List It:=[.v (.t 0) T70,.v (.t 8) T70,.v (.t 9) T70,.v (.t 11) T70,.obj (.t 1) true 133 1,.mpi (.c 0 0) true T70 T75,.obj (.t 2) true 72 1,.v (.c 2 0) T72,.obj (.t 3) true 76 1,.fnc (.c 3 0) 82 [.al 0,.al 2,.al 3],.row (.t 10) false T70 70]
abbrev qT:List (DEx×List It):=[(.exit 0,[.v (.t 0) T70,.obj (.t 1) true 133 1,.mpi (.c 0 0) true T70 T75,.obj (.t 2) true 72 1,.v (.c 2 0) T72,.obj (.t 3) true 76 1,.fnc (.c 3 0) 82 [.al 0,.al 2,.al 3],.row (.t 10) false T70 70])]
noncomputable def qfa(n:Nat)(g:qf)(rec:qc qE→Option (qW qT))(s:qc qE):Option (qW qT):=(qdi tab (qz n g) (qcx n g) (subC [true,true,true,true,true,false,true,false,false] (qo Tryz.f82)) 1 (mkS qE 62 s)).run (Lp.leaf 62 qE qT rec)
noncomputable def qbx(n:Nat)(g:qf):Lp:=⟨62,qE,qT,qr n (qfa n g)⟩
theorem qfb(n:Nat)(g:qf):qJ (qz n g).c (subC [true,true,true,true,true,false,true,false,false] (qo Tryz.f82)) 1=[]:=by kernel_rfl
theorem qeC(n:Nat)(g:qf)(st:St)(r:DEx×St)(h:((qbx n g).go st).Is r):DA Tryz.prog false (.loop (subC [true,true,true,true,true,false,true,false,false] (qo Tryz.f82))) st r:=Lp.ok (L:=qbx n g) (B:=tab) (cs:=qz n g) (lo:=qcx n g) (id:=0) rfl (qgo (qfb n g) qdH) (fun _ _=>rfl) h
noncomputable def qcy(n:Nat)(g:qf):Nat→St→PT (DEx×St):=fun k st=>match k with
 | 0=>(qbx n g).go st
 | _=>.fail
theorem qfg(n:Nat)(g:qf):qJ (qz n g).c (qo Tryz.f82) 0=[(0,.loop (subC [true,true,true,true,true,false,true,false,false] (qo Tryz.f82)))]:=by kernel_rfl
theorem qfh:Tryz.f82.body=some (qo Tryz.f82):=by kernel_rfl
noncomputable def qcz(n:Nat)(g:qf)(x:qc qn):Option (qV qm):=runW tab (qz n g) (qcy n g) (qo Tryz.f82) qn 4 62 [.tmp 5] qm x
theorem qfc(n:Nat)(g:qf):qkT Tryz.prog 82 4 qn 1 qm (qcz n g):=fun _ _ h=>qhz (B:=tab) (cs:=qz n g) (lo:=qcy n g) (rs:=[.tmp 5]) Tryz.func82 (by kernel_rfl) qfh (by kernel_rfl) (by decide) (qgo (qfg n g) (all_cons (fun st r h=>qeC n g st r h) qdH)) h
noncomputable def qZ(n:Nat):Nat→qf
 | 0=>⟨fun _=>none,fun _ _ h=>by cases h⟩
 | k+1=>⟨qcz n (qZ n k),qfc n (qZ n k)⟩
noncomputable def qfi(n:Nat)(x:qc qn):Option (qV qm):=(qZ n n).1 x
noncomputable def qfj(n:Nat):Cw Tryz.prog:=⟨82,4,qn,1,qm,qfi n,(qZ n n).2⟩
noncomputable def qle(n:Nat):CL Tryz.prog:=⟨[],[qfj n],0,nof⟩
def qlO(n:Nat):Ct Tryz.prog:=mkC tab (qle n) [] Tryz.func41 [.d T72,.d T70] [T75] (by kernel_rfl)
noncomputable def qqb(n:Nat):CL Tryz.prog:=⟨[qdn n],[],0,nof⟩
def qjH(n:Nat):Ct Tryz.prog:=mkC tab (qqb n) [] Tryz.func86 [.d T138,.d T138] [T3] (by kernel_rfl)
noncomputable def qbd(n:Nat):CL Tryz.prog:=⟨[qjH n],[],0,nof⟩
def qed(n:Nat):LK Tryz.prog false:=mkL tab (qbd n) [] Tryz.f171 [true,false,false,true,false,false,true,false,false] 1 n [.v (.t 1) T3,.v (.t 2) T3,.fn (.t 3) 86 [] [],.v (.t 8) T3,.v (.t 9) T3,.row (.t 0) true T138 138] [(.exit 2,[.v (.t 1) T3,.v (.t 2) T3,.fn (.t 3) 86 [] [],.v (.t 8) T3,.row (.t 0) true T138 138])] (by kernel_rfl)
def qee(n:Nat):LK Tryz.prog false:=mkL tab (qbd n) [qed n] Tryz.f171 [true,false,false] 0 n [.v (.t 1) T3,.v (.t 2) T3,.fn (.t 3) 86 [] [],.v (.t 8) T3,.row (.t 0) true T138 138] [(.exit 0,[.row (.t 0) true T138 138])] (by kernel_rfl)
def qer(n:Nat):Cw Tryz.prog:=mkW tab (qbd n) [qee n] Tryz.func171 [.v (.t 1) T3,.v (.t 2) T3,.fn (.t 3) 86 [] [],.row (.t 0) true T138 138] 4 [[.row (.t 0) true T138 138]] (by kernel_rfl)
noncomputable def q6(n:Nat):CL Tryz.prog:=⟨[qjH n],[qer n],0,nof⟩
def qfk(n:Nat):LK Tryz.prog false:=mkL tab (q6 n) [] Tryz.f126 [true,true,false,false,false] 0 n [.v (.t 1) T3,.fn (.t 2) 86 [] [],.v (.t 6) T3,.v (.t 7) T3,.v (.t 8) T3,.row (.t 0) true T138 138] [(.exit 0,[.v (.t 1) T3,.fn (.t 2) 86 [] [],.v (.t 6) T3,.v (.t 7) T3,.row (.t 0) true T138 138])] (by kernel_rfl)
def qfl(n:Nat):LK Tryz.prog false:=mkL tab (q6 n) [] Tryz.f126 [true,true,true,true,false,false,true,false,true,false,false,false] 2 n [.v (.t 1) T3,.fn (.t 2) 86 [] [],.v (.t 6) T3,.v (.t 7) T3,.v (.t 8) T3,.row (.t 0) true T138 138] [(.exit 4,[.v (.t 1) T3,.fn (.t 2) 86 [] [],.v (.t 6) T3,.v (.t 7) T3,.row (.t 0) true T138 138])] (by kernel_rfl)
def qfm(n:Nat):LK Tryz.prog false:=mkL tab (q6 n) [qfl n] Tryz.f126 [true,true,true,true,false,false] 1 n [.v (.t 1) T3,.fn (.t 2) 86 [] [],.v (.t 6) T3,.row (.t 0) true T138 138] [(.exit 2,[.row (.t 0) true T138 138])] (by kernel_rfl)
def qfG(n:Nat):Cw Tryz.prog:=mkW tab (q6 n) [qfk n,qfm n] Tryz.func126 [.v (.t 1) T3,.fn (.t 2) 86 [] [],.row (.t 0) true T138 138] 3 [[.row (.t 0) true T138 138]] (by kernel_rfl)
noncomputable def qfd(n:Nat):CL Tryz.prog:=⟨[qjH n],[qfG n],0,nof⟩
def qfn(n:Nat):Cw Tryz.prog:=mkW tab (qfd n) [] Tryz.func85 [.fn (.t 1) 86 [] [],.row (.t 0) true T138 138] 2 [[.row (.t 0) true T138 138]] (by kernel_rfl)
noncomputable def qjp(n:Nat):CL Tryz.prog:=⟨[],[],0,nof⟩
def qgB(n:Nat):Ct Tryz.prog:=mkC tab (qjp n) [] Tryz.func88 [.d T138] [T4] (by kernel_rfl)
noncomputable def qbA(n:Nat):CL Tryz.prog:=⟨[qgB n],[],0,nof⟩
def qdr(n:Nat):LK Tryz.prog false:=mkL tab (qbA n) [] Tryz.f127 [true,false,true,false,false] 0 n [.fn (.t 1) 88 [] [],.v (.t 7) T3,.v (.t 8) T3,.row (.t 0) true T138 138] [(.exit 0,[.row (.t 0) true T138 138]),(.ret,[.v (.t 4) T3,.row (.t 0) true T138 138])] (by kernel_rfl)
def qdx(n:Nat):Cw Tryz.prog:=mkW tab (qbA n) [qdr n] Tryz.func127 [.fn (.t 1) 88 [] [],.row (.t 0) true T138 138] 2 [[.v (.t 0) T3,.row (.t 1) true T138 138]] (by kernel_rfl)
noncomputable def qbN(n:Nat):CL Tryz.prog:=⟨[qgB n],[qdx n],0,nof⟩
def qdN(n:Nat):LK Tryz.prog false:=mkL tab (qbN n) [] Tryz.f87 [true,true,true,false,true,false,false] 0 n [.fn (.t 1) 88 [] [],.v (.t 5) T3,.v (.t 6) T3,.row (.t 0) true T138 138] [(.exit 0,[.v (.t 5) T3,.row (.t 0) true T138 138])] (by kernel_rfl)
def qdX(n:Nat):Cw Tryz.prog:=mkW tab (qbN n) [qdN n] Tryz.func87 [.fn (.t 1) 88 [] [],.row (.t 0) true T138 138] 2 [[.row (.t 1) true T138 138,.sub (.t 0) 0]] (by kernel_rfl)
noncomputable def qeD(n:Nat):CL Tryz.prog:=⟨[tz_C n],[qfn n,qdX n],1,nof⟩
def qj5(n:Nat):LK Tryz.prog false:=mkL tab (qeD n) [] Tryz.f43 [true,true,false,false,false] 0 n [.v (.t 0) T72,.v (.t 1) T70,.row (.t 4) false T80 80,.row (.t 5) false T138 138] [(.exit 0,[.row (.t 4) false T80 80,.row (.t 5) false T138 138])] (by kernel_rfl)
def qj6(n:Nat):LK Tryz.prog false:=mkL tab (qeD n) [] Tryz.f43 [true,true,true,false,false,false] 1 n [.row (.t 4) false T80 80,.row (.t 5) false T138 138] [(.exit 2,[.row (.t 4) false T80 80])] (by kernel_rfl)
def qku(n:Nat):Ct Tryz.prog:=mkC tab (qeD n) [qj5 n,qj6 n] Tryz.func43 [.d T72,.d T70] [T27] (by kernel_rfl)
noncomputable def qk0(n:Nat):CL Tryz.prog:=⟨[qqX n,qlO n,qmW n,qku n],[],0,nof⟩
def qpK(n:Nat):LK Tryz.prog false:=mkL tab (qk0 n) [] Tryz.f16 [true,true,true,true,false,true,false,false] 0 n [.v (.t 4) T72,.v (.t 20) T75,.v (.t 21) T3,.v (.t 22) T3,.row (.t 6) false T80 80] [(.exit 0,[.row (.t 6) false T80 80])] (by kernel_rfl)
def qqc(n:Nat):Ct Tryz.prog:=mkC tab (qk0 n) [qpK n] Tryz.func16 [.d T22] [T27,T24] (by kernel_rfl)
noncomputable def qpL(n:Nat):CL Tryz.prog:=⟨[qqc n],[],0,nof⟩
def qlP(n:Nat):Ct Tryz.prog:=mkC tab (qpL n) [] Tryz.func14 [.d T22] [T3,T24] (by kernel_rfl)
end
noncomputable section
end
noncomputable section
noncomputable def qqd(n:Nat):CL Tryz.prog:=⟨[qca n,qiX n,qjF n],[],0,nof⟩
def qmJ(n:Nat):Ct Tryz.prog:=mkC tab (qqd n) [] Tryz.func25 [.d T3,.d T22] [T22,T24] (by kernel_rfl)
noncomputable def qlQ(n:Nat):CL Tryz.prog:=⟨[],[],0,nof⟩
def qsK(n:Nat):LK Tryz.prog false:=mkL tab (qlQ n) [] Tryz.f95 [true,false,true,false,false] 0 n [.v (.t 1) T3,.v (.t 5) T3,.obj (.t 2) false 41 13,.v (.c 0 0) T41,.obj (.t 4) false 112 3,.v (.c 1 0) T112] [(.exit 0,[.v (.t 1) T3,.obj (.t 4) false 112 3,.v (.c 0 0) T112]),(.ret,[.obj (.t 4) false 112 3,.v (.c 0 0) T112])] (by kernel_rfl)
noncomputable def qei(n:Nat):CL Tryz.prog:=⟨[],[],0,nof⟩
def qhU(n:Nat):LK Tryz.prog false:=mkL tab (qei n) [] Tryz.f57 [true,true,true,false,true,false,false] 0 n [.v (.t 0) T3,.v (.t 1) T22,.v (.t 6) T3,.v (.t 7) T3,.row (.t 5) false T3 3] [(.exit 0,[.v (.t 0) T3,.v (.t 1) T22,.v (.t 6) T3,.row (.t 5) false T3 3])] (by kernel_rfl)
def qhV(n:Nat):LK Tryz.prog false:=mkL tab (qei n) [] Tryz.f57 [true,true,true,true,true,false,false,false,true,false,false,true,false,true,false,false] 2 n [.v (.t 0) T3,.v (.t 1) T22,.v (.t 6) T3,.v (.t 9) T3,.v (.t 10) T3,.row (.t 5) false T3 3,.row (.t 8) false T4 4] [(.exit 4,[.v (.t 0) T3,.v (.t 1) T22,.v (.t 6) T3,.v (.t 9) T3,.row (.t 5) false T3 3,.row (.t 8) false T4 4])] (by kernel_rfl)
def qhW(n:Nat):LK Tryz.prog false:=mkL tab (qei n) [qhV n] Tryz.f57 [true,true,true,true,true,false,false,false] 1 n [.v (.t 0) T3,.v (.t 1) T22,.v (.t 6) T3,.row (.t 5) false T3 3,.row (.t 8) false T4 4] [(.exit 2,[.row (.t 5) false T3 3])] (by kernel_rfl)
def qii(n:Nat):Ct Tryz.prog:=mkC tab (qei n) [qhU n,qhW n] Tryz.func57 [.d T3,.d T22] [T22] (by kernel_rfl)
noncomputable def qlR(n:Nat):CL Tryz.prog:=⟨[qhd n,qga n,qii n],[],0,nof⟩
def qij(n:Nat):Ct Tryz.prog:=mkC tab (qlR n) [] Tryz.func26 [.d T3,.d T22] [T22,T24] (by kernel_rfl)
noncomputable def qhg(n:Nat):CL Tryz.prog:=⟨[],[],0,nof⟩
def qhh(n:Nat):LK Tryz.prog false:=mkL tab (qhg n) [] Tryz.f27 [true,true,false,true,false,false] 0 n [.v (.t 0) T22,.v (.t 1) T22,.v (.t 5) T3] [(.exit 0,[]),(.ret,[.v (.t 4) T4])] (by kernel_rfl)
def qfo(n:Nat):Ct Tryz.prog:=mkC tab (qhg n) [qhh n] Tryz.func27 [.d T22,.d T22] [T4] (by kernel_rfl)
noncomputable def qlS(n:Nat):CL Tryz.prog:=⟨[qlP n,qmI n,qfo n,qkt n,qhE n],[],0,nof⟩
def qik(n:Nat):Ct Tryz.prog:=mkC tab (qlS n) [] Tryz.func13 [] [T4] (by kernel_rfl)
noncomputable def qjq(n:Nat):CL Tryz.prog:=⟨[qik n,qmJ n,qij n,qfo n],[],0,nof⟩
def qb9(n:Nat):Ct Tryz.prog:=mkC tab (qjq n) [] Tryz.func7 [.d T3,.d T22] [T4] (by kernel_rfl)
end
end Go.Proofs.YtlmicgmhallkkaaGreatDoor
