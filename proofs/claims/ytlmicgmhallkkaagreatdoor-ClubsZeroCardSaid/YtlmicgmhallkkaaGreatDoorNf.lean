/- Texts DnN, DnO, DnQ, Dnz, DnV, DnW, DnX, DnY, DnL, DnZ in one. -/
import Derived.Test.YtlmicgmhallkkaaGreatDoorNe
import Derived.Test.YtlmicgmhallkkaaGreatDoorNd
import Derived.Test.YtlmicgmhallkkaaGreatDoorKa
import Derived.Test.YtlmicgmhallkkaaGreatDoorTy
/- Printed: what functions of the program compute. -/
set_option linter.constructorNameAsVariable false
set_option linter.unusedSimpArgs false
set_option linter.unusedVariables false
set_option linter.unusedSectionVars false
namespace Go.Proofs.YtlmicgmhallkkaaGreatDoor
open Go Go.Proofs Go.RowKit
set_option maxRecDepth 20000
noncomputable section
noncomputable def qw4(n:Nat):CL Tryz.prog:=⟨[],[],0,nof⟩
def qd3(n:Nat):Ct Tryz.prog:=mkC tab (qw4 n) [] Tryz.func47 [.d T3,.d T3,.d T3] [T4] (by kernel_rfl)
noncomputable def qwa(n:Nat):CL Tryz.prog:=⟨[qd3 n],[],0,nof⟩
def qhB(n:Nat):Ct Tryz.prog:=mkC tab (qwa n) [] Tryz.func73 [.d T3] [T4] (by kernel_rfl)
noncomputable def qzW(n:Nat):CL Tryz.prog:=⟨[qd3 n],[],0,nof⟩
def qle(n:Nat):Ct Tryz.prog:=mkC tab (qzW n) [] Tryz.func68 [.d T3] [T4] (by kernel_rfl)
noncomputable def qmn(n:Nat):CL Tryz.prog:=⟨[qhB n],[],0,nof⟩
def qdg(n:Nat):Cw Tryz.prog:=mkW tab (qmn n) [] Tryz.func104 [.v (.t 0) T3,.obj (.t 1) true 98 1,.fnc (.c 0 0) 73 []] 2 [[.v (.t 0) T4,.obj (.t 1) true 98 1,.fnc (.c 0 0) 73 []]] (by kernel_rfl)
noncomputable def qdm(n:Nat):CL Tryz.prog:=⟨[qhB n],[qdg n],0,nof⟩
def qdn(n:Nat):LK Tryz.prog false:=mkL tab (qdm n) [] Tryz.f142 [true,false,true,false,false] 0 n [.v (.t 0) T22,.v (.t 7) T3,.v (.t 8) T3,.fnc (.t 1) 104 [.box true 98 1],.fnc (.c 0 0) 73 []] [(.exit 0,[.fnc (.t 1) 104 [.box true 98 1],.fnc (.c 0 0) 73 []]),(.ret,[.v (.t 4) T3,.fnc (.t 1) 104 [.box true 98 1],.fnc (.c 0 0) 73 []])] (by kernel_rfl)
def qdC(n:Nat):Cw Tryz.prog:=mkW tab (qdm n) [qdn n] Tryz.func142 [.v (.t 0) T22,.fnc (.t 1) 104 [.box true 98 1],.fnc (.c 0 0) 73 []] 2 [[.v (.t 0) T3,.obj (.t 1) true 98 1,.fnc (.c 0 0) 73 []]] (by kernel_rfl)
noncomputable def qgt(n:Nat):CL Tryz.prog:=⟨[qhB n],[qdg n,qdC n],0,nof⟩
def qc4(n:Nat):Cw Tryz.prog:=mkW tab (qgt n) [] Tryz.func103 [.v (.t 0) T22,.fnc (.t 1) 104 [.box true 98 1],.fnc (.c 0 0) 73 []] 2 [[.v (.t 0) T4,.obj (.t 1) true 98 1,.fnc (.c 0 0) 73 []]] (by kernel_rfl)
noncomputable def qmN(n:Nat):CL Tryz.prog:=⟨[qhB n],[qc4 n],0,nof⟩
def qiB(n:Nat):Cw Tryz.prog:=mkW tab (qmN n) [] Tryz.func67 [.v (.t 0) T22,.fn (.t 1) 73 [] []] 2 [[.v (.t 0) T4]] (by kernel_rfl)
noncomputable def qnD(n:Nat):CL Tryz.prog:=⟨[qle n],[],0,nof⟩
def qgh(n:Nat):Cw Tryz.prog:=mkW tab (qnD n) [] Tryz.func104 [.v (.t 0) T3,.obj (.t 1) true 98 1,.fnc (.c 0 0) 68 []] 2 [[.v (.t 0) T4,.obj (.t 1) true 98 1,.fnc (.c 0 0) 68 []]] (by kernel_rfl)
noncomputable def qdU(n:Nat):CL Tryz.prog:=⟨[qle n],[qgh n],0,nof⟩
def qdV(n:Nat):LK Tryz.prog false:=mkL tab (qdU n) [] Tryz.f142 [true,false,true,false,false] 0 n [.v (.t 0) T22,.v (.t 7) T3,.v (.t 8) T3,.fnc (.t 1) 104 [.box true 98 1],.fnc (.c 0 0) 68 []] [(.exit 0,[.fnc (.t 1) 104 [.box true 98 1],.fnc (.c 0 0) 68 []]),(.ret,[.v (.t 4) T3,.fnc (.t 1) 104 [.box true 98 1],.fnc (.c 0 0) 68 []])] (by kernel_rfl)
def qd5(n:Nat):Cw Tryz.prog:=mkW tab (qdU n) [qdV n] Tryz.func142 [.v (.t 0) T22,.fnc (.t 1) 104 [.box true 98 1],.fnc (.c 0 0) 68 []] 2 [[.v (.t 0) T3,.obj (.t 1) true 98 1,.fnc (.c 0 0) 68 []]] (by kernel_rfl)
noncomputable def qg6(n:Nat):CL Tryz.prog:=⟨[qle n],[qdg n,qgh n,qd5 n],0,nof⟩
def qdJ(n:Nat):Cw Tryz.prog:=mkW tab (qg6 n) [] Tryz.func103 [.v (.t 0) T22,.fnc (.t 1) 104 [.box true 98 1],.fnc (.c 0 0) 68 []] 2 [[.v (.t 0) T4,.obj (.t 1) true 98 1,.fnc (.c 0 0) 68 []]] (by kernel_rfl)
noncomputable def qop(n:Nat):CL Tryz.prog:=⟨[qle n],[qdJ n],0,nof⟩
def qkk(n:Nat):Cw Tryz.prog:=mkW tab (qop n) [] Tryz.func67 [.v (.t 0) T22,.fn (.t 1) 68 [] []] 2 [[.v (.t 0) T4]] (by kernel_rfl)
noncomputable def qry(n:Nat):CL Tryz.prog:=⟨[],[qiB n],0,nof⟩
def qrz(n:Nat):LK Tryz.prog false:=mkL tab (qry n) [] Tryz.f55 [true,true,false,true,false,false] 0 n [.v (.t 0) T22,.v (.t 3) T3,.v (.t 6) T22,.v (.t 7) T3,.v (.t 8) T3] [(.exit 0,[.v (.t 0) T22,.v (.t 3) T3])] (by kernel_rfl)
def qoY(n:Nat):Ct Tryz.prog:=mkC tab (qry n) [qrz n] Tryz.func55 [.d T22] [T4] (by kernel_rfl)
noncomputable def qvm(n:Nat):CL Tryz.prog:=⟨[qd3 n],[],0,nof⟩
def qcD(n:Nat):Cw Tryz.prog:=mkW tab (qvm n) [] Tryz.func62 [.v (.t 0) T3,.obj (.t 1) true 41 13,.v (.c 0 0) T41] 2 [[.v (.t 0) T4,.obj (.t 1) true 41 13,.v (.c 0 0) T41]] (by kernel_rfl)
noncomputable def qvn(n:Nat):CL Tryz.prog:=⟨[qoY n],[],0,nof⟩
def qiC(n:Nat):Cw Tryz.prog:=mkW tab (qvn n) [] Tryz.func63 [.v (.t 0) T22,.obj (.t 1) true 41 13,.v (.c 0 0) T41] 2 [[.v (.t 0) T4,.obj (.t 1) true 41 13,.v (.c 0 0) T41]] (by kernel_rfl)
noncomputable def qvo(n:Nat):CL Tryz.prog:=⟨[qd3 n],[],0,nof⟩
def qiD(n:Nat):Cw Tryz.prog:=mkW tab (qvo n) [] Tryz.func64 [.v (.t 0) T112,.obj (.t 1) true 110 1,.mpi (.c 0 0) true T3 T3,.obj (.t 2) true 41 13,.v (.c 2 0) T41] 3 [[.v (.t 0) T4,.obj (.t 1) true 110 1,.mpi (.c 0 0) true T3 T3,.obj (.t 3) true 41 13,.v (.c 2 0) T41]] (by kernel_rfl)
noncomputable def qnE(n:Nat):CL Tryz.prog:=⟨[],[qcD n],0,nof⟩
def qcP(n:Nat):Cw Tryz.prog:=mkW tab (qnE n) [] Tryz.func65 [.v (.t 0) T64,.obj (.t 1) true 98 1,.fnc (.c 0 0) 62 [.box true 41 13],.v (.c 1 0) T41] 2 [[.v (.t 0) T4,.obj (.t 1) true 98 1,.fnc (.c 0 0) 62 [.box true 41 13],.v (.c 1 0) T41]] (by kernel_rfl)
noncomputable def qnF(n:Nat):CL Tryz.prog:=⟨[qd3 n],[qcD n],0,nof⟩
def qcQ(n:Nat):Cw Tryz.prog:=mkW tab (qnF n) [] Tryz.func66 [.v (.t 0) T108,.obj (.t 1) true 98 1,.obj (.t 2) true 41 13,.v (.c 1 0) T41,.fnc (.c 0 0) 62 [.al 1]] 3 [[.v (.t 0) T4,.obj (.t 1) true 98 1,.obj (.t 2) true 41 13,.v (.c 1 0) T41,.fnc (.c 0 0) 62 [.al 1]]] (by kernel_rfl)
noncomputable def qmo(n:Nat):CL Tryz.prog:=⟨[],[qiC n],0,nof⟩
def qe3(n:Nat):Cw Tryz.prog:=mkW tab (qmo n) [] Tryz.func106 [.v (.t 0) T22,.obj (.t 1) true 31 1,.fnc (.c 0 0) 63 [.box true 41 13],.v (.c 1 0) T41] 2 [[.v (.t 0) T4,.obj (.t 1) true 31 1,.fnc (.c 0 0) 63 [.box true 41 13],.v (.c 1 0) T41]] (by kernel_rfl)
noncomputable def qdo(n:Nat):CL Tryz.prog:=⟨[],[qiC n,qe3 n],0,nof⟩
def qdp(n:Nat):LK Tryz.prog false:=mkL tab (qdo n) [] Tryz.f143 [true,false,true,false,false] 0 n [.v (.t 0) T36,.v (.t 7) T3,.v (.t 8) T3,.fnc (.t 1) 106 [.box true 31 1],.fnc (.c 0 0) 63 [.box true 41 13],.v (.c 1 0) T41] [(.exit 0,[.fnc (.t 1) 106 [.box true 31 1],.fnc (.c 0 0) 63 [.box true 41 13],.v (.c 1 0) T41]),(.ret,[.v (.t 4) T3,.fnc (.t 1) 106 [.box true 31 1],.fnc (.c 0 0) 63 [.box true 41 13],.v (.c 1 0) T41])] (by kernel_rfl)
def qdD(n:Nat):Cw Tryz.prog:=mkW tab (qdo n) [qdp n] Tryz.func143 [.v (.t 0) T36,.fnc (.t 1) 106 [.box true 31 1],.fnc (.c 0 0) 63 [.box true 41 13],.v (.c 1 0) T41] 2 [[.v (.t 0) T3,.obj (.t 1) true 31 1,.fnc (.c 0 0) 63 [.box true 41 13],.v (.c 1 0) T41]] (by kernel_rfl)
noncomputable def qgu(n:Nat):CL Tryz.prog:=⟨[],[qiC n,qe3 n,qdD n],0,nof⟩
def qc5(n:Nat):Cw Tryz.prog:=mkW tab (qgu n) [] Tryz.func105 [.v (.t 0) T36,.fnc (.t 1) 106 [.box true 31 1],.fnc (.c 0 0) 63 [.box true 41 13],.v (.c 1 0) T41] 2 [[.v (.t 0) T4,.obj (.t 1) true 31 1,.fnc (.c 0 0) 63 [.box true 41 13],.v (.c 1 0) T41]] (by kernel_rfl)
noncomputable def qmO(n:Nat):CL Tryz.prog:=⟨[],[qiC n,qc5 n],0,nof⟩
def qiE(n:Nat):Cw Tryz.prog:=mkW tab (qmO n) [] Tryz.func69 [.v (.t 0) T36,.fnc (.t 1) 63 [.box true 41 13],.v (.c 0 0) T41] 2 [[.v (.t 0) T4,.obj (.t 1) true 41 13,.v (.c 0 0) T41]] (by kernel_rfl)
noncomputable def qkE(n:Nat):CL Tryz.prog:=⟨[],[qiD n],0,nof⟩
def qdW(n:Nat):Cw Tryz.prog:=mkW tab (qkE n) [] Tryz.func108 [.v (.t 0) T112,.obj (.t 1) true 113 1,.fnc (.c 0 0) 64 [.box true 110 1,.box true 41 13],.mpi (.c 1 0) true T3 T3,.v (.c 2 0) T41] 2 [[.v (.t 0) T4,.obj (.t 1) true 113 1,.fnc (.c 0 0) 64 [.box true 110 1,.box true 41 13],.mpi (.c 1 0) true T3 T3,.v (.c 2 0) T41]] (by kernel_rfl)
noncomputable def qcp(n:Nat):CL Tryz.prog:=⟨[],[qiD n,qdW n],0,nof⟩
def qcq(n:Nat):LK Tryz.prog false:=mkL tab (qcp n) [] Tryz.f144 [true,false,true,false,false] 0 n [.v (.t 0) T37,.v (.t 7) T3,.v (.t 8) T3,.fnc (.t 1) 108 [.box true 113 1],.fnc (.c 0 0) 64 [.box true 110 1,.box true 41 13],.mpi (.c 1 0) true T3 T3,.v (.c 2 0) T41] [(.exit 0,[.fnc (.t 1) 108 [.box true 113 1],.fnc (.c 0 0) 64 [.box true 110 1,.box true 41 13],.mpi (.c 1 0) true T3 T3,.v (.c 2 0) T41]),(.ret,[.v (.t 4) T3,.fnc (.t 1) 108 [.box true 113 1],.fnc (.c 0 0) 64 [.box true 110 1,.box true 41 13],.mpi (.c 1 0) true T3 T3,.v (.c 2 0) T41])] (by kernel_rfl)
def qcz(n:Nat):Cw Tryz.prog:=mkW tab (qcp n) [qcq n] Tryz.func144 [.v (.t 0) T37,.fnc (.t 1) 108 [.box true 113 1],.fnc (.c 0 0) 64 [.box true 110 1,.box true 41 13],.mpi (.c 1 0) true T3 T3,.v (.c 2 0) T41] 2 [[.v (.t 0) T3,.obj (.t 1) true 113 1,.fnc (.c 0 0) 64 [.box true 110 1,.box true 41 13],.mpi (.c 1 0) true T3 T3,.v (.c 2 0) T41]] (by kernel_rfl)
noncomputable def qeX(n:Nat):CL Tryz.prog:=⟨[],[qiD n,qdW n,qcz n],0,nof⟩
def qch(n:Nat):Cw Tryz.prog:=mkW tab (qeX n) [] Tryz.func107 [.v (.t 0) T37,.fnc (.t 1) 108 [.box true 113 1],.fnc (.c 0 0) 64 [.box true 110 1,.box true 41 13],.mpi (.c 1 0) true T3 T3,.v (.c 2 0) T41] 2 [[.v (.t 0) T4,.obj (.t 1) true 113 1,.fnc (.c 0 0) 64 [.box true 110 1,.box true 41 13],.mpi (.c 1 0) true T3 T3,.v (.c 2 0) T41]] (by kernel_rfl)
noncomputable def qlg(n:Nat):CL Tryz.prog:=⟨[],[qiD n,qch n],0,nof⟩
def qg5(n:Nat):Cw Tryz.prog:=mkW tab (qlg n) [] Tryz.func70 [.v (.t 0) T37,.fnc (.t 1) 64 [.box true 110 1,.box true 41 13],.mpi (.c 0 0) true T3 T3,.v (.c 1 0) T41] 2 [[.v (.t 0) T4,.obj (.t 1) true 110 1,.obj (.t 2) true 41 13,.mpi (.c 0 0) true T3 T3,.v (.c 1 0) T41]] (by kernel_rfl)
noncomputable def qhj(n:Nat):CL Tryz.prog:=⟨[],[qcD n,qcP n],0,nof⟩
def qb2(n:Nat):Cw Tryz.prog:=mkW tab (qhj n) [] Tryz.func110 [.v (.t 0) T64,.obj (.t 1) true 114 1,.fnc (.c 0 0) 65 [.box true 98 1],.fnc (.c 1 0) 62 [.box true 41 13],.v (.c 2 0) T41] 2 [[.v (.t 0) T4,.obj (.t 1) true 114 1,.fnc (.c 0 0) 65 [.box true 98 1],.fnc (.c 1 0) 62 [.box true 41 13],.v (.c 2 0) T41]] (by kernel_rfl)
noncomputable def qbs(n:Nat):CL Tryz.prog:=⟨[],[qcD n,qcP n,qb2 n],0,nof⟩
def qbt(n:Nat):LK Tryz.prog false:=mkL tab (qbs n) [] Tryz.f145 [true,false,true,false,false] 0 n [.v (.t 0) T38,.v (.t 7) T3,.v (.t 8) T3,.fnc (.t 1) 110 [.box true 114 1],.fnc (.c 0 0) 65 [.box true 98 1],.fnc (.c 1 0) 62 [.box true 41 13],.v (.c 2 0) T41] [(.exit 0,[.fnc (.t 1) 110 [.box true 114 1],.fnc (.c 0 0) 65 [.box true 98 1],.fnc (.c 1 0) 62 [.box true 41 13],.v (.c 2 0) T41]),(.ret,[.v (.t 4) T3,.fnc (.t 1) 110 [.box true 114 1],.fnc (.c 0 0) 65 [.box true 98 1],.fnc (.c 1 0) 62 [.box true 41 13],.v (.c 2 0) T41])] (by kernel_rfl)
def qQ(n:Nat):Cw Tryz.prog:=mkW tab (qbs n) [qbt n] Tryz.func145 [.v (.t 0) T38,.fnc (.t 1) 110 [.box true 114 1],.fnc (.c 0 0) 65 [.box true 98 1],.fnc (.c 1 0) 62 [.box true 41 13],.v (.c 2 0) T41] 2 [[.v (.t 0) T3,.obj (.t 1) true 114 1,.fnc (.c 0 0) 65 [.box true 98 1],.fnc (.c 1 0) 62 [.box true 41 13],.v (.c 2 0) T41]] (by kernel_rfl)
noncomputable def qdu(n:Nat):CL Tryz.prog:=⟨[],[qcD n,qcP n,qb2 n,qQ n],0,nof⟩
def qN(n:Nat):Cw Tryz.prog:=mkW tab (qdu n) [] Tryz.func109 [.v (.t 0) T38,.fnc (.t 1) 110 [.box true 114 1],.fnc (.c 0 0) 65 [.box true 98 1],.fnc (.c 1 0) 62 [.box true 41 13],.v (.c 2 0) T41] 2 [[.v (.t 0) T4,.obj (.t 1) true 114 1,.fnc (.c 0 0) 65 [.box true 98 1],.fnc (.c 1 0) 62 [.box true 41 13],.v (.c 2 0) T41]] (by kernel_rfl)
noncomputable def qhP(n:Nat):CL Tryz.prog:=⟨[],[qcD n,qcP n,qN n],0,nof⟩
def qd6(n:Nat):Cw Tryz.prog:=mkW tab (qhP n) [] Tryz.func71 [.v (.t 0) T38,.fnc (.t 1) 65 [.box true 98 1],.fnc (.c 0 0) 62 [.box true 41 13],.v (.c 1 0) T41] 2 [[.v (.t 0) T4,.obj (.t 1) true 98 1,.fnc (.c 0 0) 62 [.box true 41 13],.v (.c 1 0) T41]] (by kernel_rfl)
noncomputable def qho(n:Nat):CL Tryz.prog:=⟨[],[qcD n,qcQ n],0,nof⟩
def qce(n:Nat):Cw Tryz.prog:=mkW tab (qho n) [] Tryz.func112 [.v (.t 0) T108,.obj (.t 1) true 115 1,.fnc (.c 0 0) 66 [.box true 98 1,.box true 41 13],.fnc (.c 1 0) 62 [.al 2],.v (.c 2 0) T41] 2 [[.v (.t 0) T4,.obj (.t 1) true 115 1,.fnc (.c 0 0) 66 [.box true 98 1,.box true 41 13],.fnc (.c 1 0) 62 [.al 2],.v (.c 2 0) T41]] (by kernel_rfl)
noncomputable def qbE(n:Nat):CL Tryz.prog:=⟨[],[qcD n,qcQ n,qce n],0,nof⟩
def qbF(n:Nat):LK Tryz.prog false:=mkL tab (qbE n) [] Tryz.f146 [true,false,true,false,false] 0 n [.v (.t 0) T39,.v (.t 7) T3,.v (.t 8) T3,.fnc (.t 1) 112 [.box true 115 1],.fnc (.c 0 0) 66 [.box true 98 1,.box true 41 13],.fnc (.c 1 0) 62 [.al 2],.v (.c 2 0) T41] [(.exit 0,[.fnc (.t 1) 112 [.box true 115 1],.fnc (.c 0 0) 66 [.box true 98 1,.box true 41 13],.fnc (.c 1 0) 62 [.al 2],.v (.c 2 0) T41]),(.ret,[.v (.t 4) T3,.fnc (.t 1) 112 [.box true 115 1],.fnc (.c 0 0) 66 [.box true 98 1,.box true 41 13],.fnc (.c 1 0) 62 [.al 2],.v (.c 2 0) T41])] (by kernel_rfl)
def qbH(n:Nat):Cw Tryz.prog:=mkW tab (qbE n) [qbF n] Tryz.func146 [.v (.t 0) T39,.fnc (.t 1) 112 [.box true 115 1],.fnc (.c 0 0) 66 [.box true 98 1,.box true 41 13],.fnc (.c 1 0) 62 [.al 2],.v (.c 2 0) T41] 2 [[.v (.t 0) T3,.obj (.t 1) true 115 1,.fnc (.c 0 0) 66 [.box true 98 1,.box true 41 13],.fnc (.c 1 0) 62 [.al 2],.v (.c 2 0) T41]] (by kernel_rfl)
noncomputable def qdK(n:Nat):CL Tryz.prog:=⟨[],[qcD n,qcQ n,qce n,qbH n],0,nof⟩
def qbu(n:Nat):Cw Tryz.prog:=mkW tab (qdK n) [] Tryz.func111 [.v (.t 0) T39,.fnc (.t 1) 112 [.box true 115 1],.fnc (.c 0 0) 66 [.box true 98 1,.box true 41 13],.fnc (.c 1 0) 62 [.al 2],.v (.c 2 0) T41] 2 [[.v (.t 0) T4,.obj (.t 1) true 115 1,.fnc (.c 0 0) 66 [.box true 98 1,.box true 41 13],.fnc (.c 1 0) 62 [.al 2],.v (.c 2 0) T41]] (by kernel_rfl)
noncomputable def qhZ(n:Nat):CL Tryz.prog:=⟨[],[qcD n,qcQ n,qbu n],0,nof⟩
def qec(n:Nat):Cw Tryz.prog:=mkW tab (qhZ n) [] Tryz.func72 [.v (.t 0) T39,.fnc (.t 1) 66 [.box true 98 1,.box true 41 13],.fnc (.c 0 0) 62 [.al 1],.v (.c 1 0) T41] 2 [[.v (.t 0) T4,.obj (.t 1) true 98 1,.obj (.t 2) true 41 13,.fnc (.c 0 0) 62 [.al 1],.v (.c 1 0) T41]] (by kernel_rfl)
noncomputable def qxG(n:Nat):CL Tryz.prog:=⟨[qd3 n,qqC n,qle n,qhB n],[qkk n,qiE n,qg5 n,qd6 n,qec n],0,nof⟩
def qtI(n:Nat):Ct Tryz.prog:=mkC tab (qxG n) [] Tryz.func33 [.d T41] [T24] (by kernel_rfl)
noncomputable def qwb(n:Nat):CL Tryz.prog:=⟨[],[],0,nof⟩
def qrA(n:Nat):Cw Tryz.prog:=mkW tab (qwb n) [] Tryz.func89 [.v (.t 0) T91,.obj (.t 1) true 3 1,.v (.c 0 0) T3] 2 [[.v (.t 0) T4,.obj (.t 1) true 3 1,.v (.c 0 0) T3]] (by kernel_rfl)
noncomputable def qfo(n:Nat):CL Tryz.prog:=⟨[],[qrA n],0,nof⟩
def qfp(n:Nat):LK Tryz.prog false:=mkL tab (qfo n) [] Tryz.f58 [true,false,true,false,false] 0 n [.v (.t 0) T35,.v (.t 7) T3,.v (.t 8) T3,.fnc (.t 1) 89 [.box true 3 1],.v (.c 0 0) T3] [(.exit 0,[.fnc (.t 1) 89 [.box true 3 1],.v (.c 0 0) T3]),(.ret,[.v (.t 4) T3,.fnc (.t 1) 89 [.box true 3 1],.v (.c 0 0) T3])] (by kernel_rfl)
def qc8(n:Nat):Cw Tryz.prog:=mkW tab (qfo n) [qfp n] Tryz.func58 [.v (.t 0) T35,.fnc (.t 1) 89 [.box true 3 1],.v (.c 0 0) T3] 2 [[.v (.t 0) T3,.obj (.t 1) true 3 1,.v (.c 0 0) T3]] (by kernel_rfl)
noncomputable def qsm(n:Nat):CL Tryz.prog:=⟨[qtI n,qn1 n],[qZ n,qT n,qbg n,qc8 n],0,nof⟩
def qsn(n:Nat):LK Tryz.prog false:=mkL tab (qsm n) [] Tryz.f46 [true,true,true,true,false,true,false,false] 0 n [.v (.t 27) T22,.v (.t 28) T3,.v (.t 29) T3,.obj (.t 1) false 41 13,.v (.c 0 0) T41,.obj (.t 5) false 88 14,.v (.c 1 0) T41,.row (.c 1 13) false T91 91] [(.exit 0,[.obj (.t 5) false 88 14,.v (.c 0 0) T41,.row (.c 0 13) false T91 91])] (by kernel_rfl)
def qm0(n:Nat):Cw Tryz.prog:=mkW tab (qsm n) [qsn n] Tryz.func46 [.v (.t 0) T41] 1 [[.v (.t 1) T24,.obj (.t 0) false 88 14,.v (.c 0 0) T41,.row (.c 0 13) false T91 91],[.nilp (.t 0),.v (.t 1) T24]] (by kernel_rfl)
noncomputable def qmP(n:Nat):CL Tryz.prog:=⟨[],[],0,nof⟩
def qmQ(n:Nat):LK Tryz.prog false:=mkL tab (qmP n) [] Tryz.f90 [true,false,true,false,false] 0 n [.v (.t 1) T3,.v (.t 11) T37,.v (.t 12) T3,.v (.t 13) T3,.obj (.t 0) true 88 14,.v (.c 0 0) T88,.obj (.t 4) false 112 3,.v (.c 1 0) T112] [(.exit 0,[.v (.t 1) T3,.obj (.t 0) true 88 14,.v (.c 0 0) T88,.obj (.t 4) false 112 3,.v (.c 1 0) T112]),(.ret,[.obj (.t 0) true 88 14,.v (.c 0 0) T88,.obj (.t 4) false 112 3,.v (.c 1 0) T112])] (by kernel_rfl)
def qnu(n:Nat):Cw Tryz.prog:=mkW tab (qmP n) [qmQ n] Tryz.func90 [.v (.t 1) T3,.obj (.t 0) true 88 14,.v (.c 0 0) T88] 2 [[.v (.t 0) T112,.obj (.t 1) true 88 14,.v (.c 0 0) T88]] (by kernel_rfl)
noncomputable def qso(n:Nat):CL Tryz.prog:=⟨[],[],0,nof⟩
def qkF(n:Nat):Cw Tryz.prog:=mkW tab (qso n) [] Tryz.func128 [.v (.t 1) T3,.v (.t 2) T3,.obj (.t 0) true 88 14,.v (.c 0 0) T88] 3 [[.v (.t 0) T4,.obj (.t 1) true 88 14,.v (.c 0 0) T88]] (by kernel_rfl)
noncomputable def qps(n:Nat):CL Tryz.prog:=⟨[],[qkF n],0,nof⟩
def qfu(n:Nat):Cw Tryz.prog:=mkW tab (qps n) [] Tryz.func129 [.v (.t 0) T64,.obj (.t 1) true 3 1,.v (.c 0 0) T3,.obj (.t 2) true 83 1,.obj (.c 1 0) true 88 14,.v (.c 2 0) T88,.obj (.t 3) true 3 1,.v (.c 3 0) T3] 4 [[.v (.t 0) T4,.obj (.t 1) true 3 1,.v (.c 0 0) T3,.obj (.t 2) true 83 1,.obj (.c 1 0) true 88 14,.v (.c 2 0) T88,.obj (.t 4) true 3 1,.v (.c 3 0) T3]] (by kernel_rfl)
noncomputable def qdQ(n:Nat):CL Tryz.prog:=⟨[],[qfu n],0,nof⟩
def qdR(n:Nat):LK Tryz.prog false:=mkL tab (qdQ n) [] Tryz.f145 [true,false,true,false,false] 0 n [.v (.t 0) T38,.v (.t 7) T3,.v (.t 8) T3,.fnc (.t 1) 129 [.box true 3 1,.box true 83 1,.box true 3 1],.v (.c 0 0) T3,.obj (.c 1 0) true 88 14,.v (.c 3 0) T88,.v (.c 2 0) T3] [(.exit 0,[.fnc (.t 1) 129 [.box true 3 1,.box true 83 1,.box true 3 1],.v (.c 0 0) T3,.obj (.c 1 0) true 88 14,.v (.c 3 0) T88,.v (.c 2 0) T3]),(.ret,[.v (.t 4) T3,.fnc (.t 1) 129 [.box true 3 1,.box true 83 1,.box true 3 1],.v (.c 0 0) T3,.obj (.c 1 0) true 88 14,.v (.c 3 0) T88,.v (.c 2 0) T3])] (by kernel_rfl)
def qdX(n:Nat):Cw Tryz.prog:=mkW tab (qdQ n) [qdR n] Tryz.func145 [.v (.t 0) T38,.fnc (.t 1) 129 [.box true 3 1,.box true 83 1,.box true 3 1],.v (.c 0 0) T3,.obj (.c 1 0) true 88 14,.v (.c 3 0) T88,.v (.c 2 0) T3] 2 [[.v (.t 0) T3,.obj (.t 1) true 3 1,.obj (.t 2) true 83 1,.obj (.t 3) true 3 1,.v (.c 0 0) T3,.obj (.c 1 0) true 88 14,.v (.c 3 0) T88,.v (.c 2 0) T3]] (by kernel_rfl)
noncomputable def qgZ(n:Nat):CL Tryz.prog:=⟨[],[qfu n,qQ n,qdX n],0,nof⟩
def qdE(n:Nat):Cw Tryz.prog:=mkW tab (qgZ n) [] Tryz.func109 [.v (.t 0) T38,.fnc (.t 1) 129 [.box true 3 1,.box true 83 1,.box true 3 1],.v (.c 0 0) T3,.obj (.c 1 0) true 88 14,.v (.c 3 0) T88,.v (.c 2 0) T3] 2 [[.v (.t 0) T4,.obj (.t 1) true 3 1,.obj (.t 2) true 83 1,.obj (.t 3) true 3 1,.v (.c 0 0) T3,.obj (.c 1 0) true 88 14,.v (.c 3 0) T88,.v (.c 2 0) T3]] (by kernel_rfl)
noncomputable def qqa(n:Nat):CL Tryz.prog:=⟨[],[qN n,qdE n,qkF n],0,nof⟩
def qlZ(n:Nat):Cw Tryz.prog:=mkW tab (qqa n) [] Tryz.func91 [.v (.t 1) T3,.v (.t 2) T3,.obj (.t 0) true 88 14,.v (.c 0 0) T88] 3 [[.v (.t 0) T4,.obj (.t 1) true 88 14,.v (.c 0 0) T88]] (by kernel_rfl)
noncomputable def qAA(n:Nat):CL Tryz.prog:=⟨[],[],0,nof⟩
def qtq(n:Nat):Ct Tryz.prog:=mkC tab (qAA n) [] Tryz.func92 [.d T3,.d T3] [T3] (by kernel_rfl)
noncomputable def qsp(n:Nat):CL Tryz.prog:=⟨[qtq n],[qnu n,qlZ n],0,nof⟩
def qkG(n:Nat):Cw Tryz.prog:=mkW tab (qsp n) [] Tryz.func50 [.v (.t 1) T91,.v (.t 2) T95,.obj (.t 0) true 88 14,.v (.c 0 0) T88] 3 [[.v (.t 0) T3,.v (.t 1) T3,.obj (.t 2) true 88 14,.v (.c 0 0) T88]] (by kernel_rfl)
noncomputable def qvp(n:Nat):CL Tryz.prog:=⟨[],[],0,nof⟩
def qqG(n:Nat):Cw Tryz.prog:=mkW tab (qvp n) [] Tryz.func59 [.v (.t 0) T91,.obj (.t 1) true 3 1,.v (.c 0 0) T3] 2 [[.v (.t 0) T4,.obj (.t 1) true 3 1,.v (.c 0 0) T3]] (by kernel_rfl)
noncomputable def qfc(n:Nat):CL Tryz.prog:=⟨[],[qqG n],0,nof⟩
def qfd(n:Nat):LK Tryz.prog false:=mkL tab (qfc n) [] Tryz.f58 [true,false,true,false,false] 0 n [.v (.t 0) T35,.v (.t 7) T3,.v (.t 8) T3,.fnc (.t 1) 59 [.box true 3 1],.v (.c 0 0) T3] [(.exit 0,[.fnc (.t 1) 59 [.box true 3 1],.v (.c 0 0) T3]),(.ret,[.v (.t 4) T3,.fnc (.t 1) 59 [.box true 3 1],.v (.c 0 0) T3])] (by kernel_rfl)
def qfq(n:Nat):Cw Tryz.prog:=mkW tab (qfc n) [qfd n] Tryz.func58 [.v (.t 0) T35,.fnc (.t 1) 59 [.box true 3 1],.v (.c 0 0) T3] 2 [[.v (.t 0) T3,.obj (.t 1) true 3 1,.v (.c 0 0) T3]] (by kernel_rfl)
noncomputable def qsq(n:Nat):CL Tryz.prog:=⟨[],[qm0 n,qkG n,qZ n,qT n,qbg n,qc8 n,qfq n],2,nof⟩
def qsr(n:Nat):LK Tryz.prog false:=mkL tab (qsq n) [] Tryz.f29 [true,true,true,true,true,false,true,false,false] 0 n [.v (.t 4) T3,.v (.t 5) T3,.v (.t 8) T3,.v (.t 36) T89,.v (.t 37) T3,.v (.t 38) T3,.obj (.t 7) false 88 14,.v (.c 0 0) T88] [(.exit 0,[.v (.t 4) T3,.v (.t 5) T3])] (by kernel_rfl)
def qtJ(n:Nat):Ct Tryz.prog:=mkC tab (qsq n) [qsr n] Tryz.func29 [.d T41,.d T3] [T3,T3,T24] (by kernel_rfl)
end
noncomputable section
noncomputable def qvq(n:Nat):CL Tryz.prog:=⟨[qgq n],[],0,nof⟩
def qkH(n:Nat):Cw Tryz.prog:=mkW tab (qvq n) [] Tryz.func99 [.v (.t 0) T3,.v (.t 1) T3,.obj (.t 2) true 3 1,.v (.c 0 0) T3,.obj (.t 3) true 22 1,.v (.c 1 0) T22] 4 [[.v (.t 0) T3,.obj (.t 1) true 3 1,.v (.c 0 0) T3,.obj (.t 2) true 22 1,.v (.c 1 0) T22]] (by kernel_rfl)
noncomputable def qcw(n:Nat):CL Tryz.prog:=⟨[],[qkH n],0,nof⟩
def qeo(n:Nat):LK Tryz.prog false:=mkL tab (qcw n) [] Tryz.f174 [true,false,false,true,false,false,true,false,false] 1 n [.v (.t 1) T3,.v (.t 2) T3,.v (.t 8) T3,.v (.t 9) T3,.row (.t 0) true T3 3,.fnc (.t 3) 99 [.box true 3 1,.box true 22 1],.v (.c 1 0) T3,.v (.c 2 0) T22] [(.exit 2,[.v (.t 1) T3,.v (.t 2) T3,.v (.t 8) T3,.row (.t 0) true T3 3,.fnc (.t 3) 99 [.box true 3 1,.box true 22 1],.v (.c 1 0) T3,.v (.c 2 0) T22])] (by kernel_rfl)
def qep(n:Nat):LK Tryz.prog false:=mkL tab (qcw n) [qeo n] Tryz.f174 [true,false,false] 0 n [.v (.t 1) T3,.v (.t 2) T3,.v (.t 8) T3,.row (.t 0) true T3 3,.fnc (.t 3) 99 [.box true 3 1,.box true 22 1],.v (.c 1 0) T3,.v (.c 2 0) T22] [(.exit 0,[.row (.t 0) true T3 3,.fnc (.t 3) 99 [.box true 3 1,.box true 22 1],.v (.c 1 0) T3,.v (.c 2 0) T22])] (by kernel_rfl)
def qeH(n:Nat):Cw Tryz.prog:=mkW tab (qcw n) [qep n] Tryz.func174 [.v (.t 1) T3,.v (.t 2) T3,.row (.t 0) true T3 3,.fnc (.t 3) 99 [.box true 3 1,.box true 22 1],.v (.c 1 0) T3,.v (.c 2 0) T22] 4 [[.row (.t 0) true T3 3,.obj (.t 1) true 3 1,.obj (.t 2) true 22 1,.v (.c 1 0) T3,.v (.c 2 0) T22]] (by kernel_rfl)
noncomputable def qb8(n:Nat):CL Tryz.prog:=⟨[],[qkH n,qeH n],0,nof⟩
def qfO(n:Nat):LK Tryz.prog false:=mkL tab (qb8 n) [] Tryz.f132 [true,true,false,false,false] 0 n [.v (.t 1) T3,.v (.t 6) T3,.v (.t 7) T3,.v (.t 8) T3,.row (.t 0) true T3 3,.fnc (.t 2) 99 [.box true 3 1,.box true 22 1],.v (.c 1 0) T3,.v (.c 2 0) T22] [(.exit 0,[.v (.t 1) T3,.v (.t 6) T3,.v (.t 7) T3,.row (.t 0) true T3 3,.fnc (.t 2) 99 [.box true 3 1,.box true 22 1],.v (.c 1 0) T3,.v (.c 2 0) T22])] (by kernel_rfl)
def qfP(n:Nat):LK Tryz.prog false:=mkL tab (qb8 n) [] Tryz.f132 [true,true,true,true,false,false,true,false,true,false,false,false] 2 n [.v (.t 1) T3,.v (.t 6) T3,.v (.t 7) T3,.v (.t 8) T3,.row (.t 0) true T3 3,.fnc (.t 2) 99 [.box true 3 1,.box true 22 1],.v (.c 1 0) T3,.v (.c 2 0) T22] [(.exit 4,[.v (.t 1) T3,.v (.t 6) T3,.v (.t 7) T3,.row (.t 0) true T3 3,.fnc (.t 2) 99 [.box true 3 1,.box true 22 1],.v (.c 1 0) T3,.v (.c 2 0) T22])] (by kernel_rfl)
def qfQ(n:Nat):LK Tryz.prog false:=mkL tab (qb8 n) [qfP n] Tryz.f132 [true,true,true,true,false,false] 1 n [.v (.t 1) T3,.v (.t 6) T3,.row (.t 0) true T3 3,.fnc (.t 2) 99 [.box true 3 1,.box true 22 1],.v (.c 1 0) T3,.v (.c 2 0) T22] [(.exit 2,[.row (.t 0) true T3 3,.fnc (.t 2) 99 [.box true 3 1,.box true 22 1],.v (.c 1 0) T3,.v (.c 2 0) T22])] (by kernel_rfl)
def qf5(n:Nat):Cw Tryz.prog:=mkW tab (qb8 n) [qfO n,qfQ n] Tryz.func132 [.v (.t 1) T3,.row (.t 0) true T3 3,.fnc (.t 2) 99 [.box true 3 1,.box true 22 1],.v (.c 1 0) T3,.v (.c 2 0) T22] 3 [[.row (.t 0) true T3 3,.obj (.t 1) true 3 1,.obj (.t 2) true 22 1,.v (.c 1 0) T3,.v (.c 2 0) T22]] (by kernel_rfl)
noncomputable def qj4(n:Nat):CL Tryz.prog:=⟨[],[qkH n,qf5 n],0,nof⟩
def qfR(n:Nat):Cw Tryz.prog:=mkW tab (qj4 n) [] Tryz.func98 [.row (.t 0) true T3 3,.fnc (.t 1) 99 [.box true 3 1,.box true 22 1],.v (.c 1 0) T3,.v (.c 2 0) T22] 2 [[.row (.t 0) true T3 3,.obj (.t 1) true 3 1,.obj (.t 2) true 22 1,.v (.c 1 0) T3,.v (.c 2 0) T22]] (by kernel_rfl)
noncomputable def qoZ(n:Nat):CL Tryz.prog:=⟨[],[qfR n],0,nof⟩
def qss(n:Nat):LK Tryz.prog false:=mkL tab (qoZ n) [] Tryz.f56 [true,true,true,true,false,true,false,false] 0 n [.v (.t 7) T3,.v (.t 19) T22,.v (.t 20) T3,.v (.t 21) T3,.obj (.t 2) false 3 1,.v (.c 0 0) T3,.obj (.t 3) false 22 1,.v (.c 1 0) T22,.row (.t 5) false T3 3,.row (.t 6) false T3 3] [(.exit 0,[.v (.t 7) T3,.obj (.t 2) false 3 1,.v (.c 0 0) T3,.obj (.t 3) false 22 1,.v (.c 1 0) T22,.row (.t 5) false T3 3,.row (.t 6) false T3 3])] (by kernel_rfl)
def qst(n:Nat):LK Tryz.prog false:=mkL tab (qoZ n) [] Tryz.f56 [true,true,true,true,true,true,false,true,false,false] 1 n [.v (.t 50) T3,.v (.t 51) T3,.row (.t 5) false T3 3,.row (.t 6) false T3 3,.sub (.t 49) 1] [(.exit 2,[.row (.t 5) false T3 3])] (by kernel_rfl)
def qpL(n:Nat):Ct Tryz.prog:=mkC tab (qoZ n) [qss n,qst n] Tryz.func56 [.d T3,.d T22] [T22] (by kernel_rfl)
noncomputable def qn2(n:Nat):CL Tryz.prog:=⟨[qpL n],[],0,nof⟩
def qn3(n:Nat):LK Tryz.prog false:=mkL tab (qn2 n) [] Tryz.f60 [true,false,false] 0 n [.v (.t 2) T3,.v (.t 19) T22,.v (.t 20) T3,.v (.t 21) T3,.obj (.t 3) true 83 1,.obj (.c 0 0) true 88 14,.v (.c 1 0) T88,.obj (.t 4) true 22 1,.row (.c 2 0) true T3 3] [(.exit 0,[.obj (.t 3) true 83 1,.obj (.c 0 0) true 88 14,.v (.c 1 0) T88,.obj (.t 4) true 22 1,.row (.c 2 0) true T3 3])] (by kernel_rfl)
def qoy(n:Nat):Cw Tryz.prog:=mkW tab (qn2 n) [qn3 n] Tryz.func60 [.v (.t 0) T3,.v (.t 1) T3,.v (.t 2) T3,.obj (.t 3) true 83 1,.obj (.c 0 0) true 88 14,.v (.c 1 0) T88,.obj (.t 4) true 22 1,.row (.c 2 0) true T3 3] 5 [[.obj (.t 0) true 83 1,.obj (.c 0 0) true 88 14,.v (.c 1 0) T88,.obj (.t 2) true 22 1,.row (.c 2 0) true T3 3]] (by kernel_rfl)
noncomputable def qj7(n:Nat):CL Tryz.prog:=⟨[],[qm0 n,qkG n,qoy n],2,nof⟩
def qpS(n:Nat):LK Tryz.prog false:=mkL tab (qj7 n) [] Tryz.f31 [true,true,true,true,true,true,false,true,false,false,true,true,false,false,true,true,false,false] 1 n [.v (.t 6) T3,.v (.t 7) T3,.v (.t 48) T35,.v (.t 49) T3,.v (.t 50) T3,.v (.t 55) T89,.v (.t 56) T3,.v (.t 57) T3,.obj (.t 4) false 83 1,.obj (.c 0 0) false 88 14,.v (.c 1 0) T88,.obj (.t 8) false 22 1,.row (.c 2 0) false T3 3,.obj (.t 11) false 91 5,.v (.c 4 0) T91,.fnc (.t 9) 60 [.al 0,.al 2]] [(.exit 2,[.v (.t 6) T3,.v (.t 7) T3,.v (.t 48) T35,.v (.t 49) T3,.v (.t 50) T3,.obj (.t 4) false 83 1,.obj (.c 0 0) false 88 14,.v (.c 1 0) T88,.obj (.t 8) false 22 1,.row (.c 2 0) false T3 3,.fnc (.t 9) 60 [.al 0,.al 2]])] (by kernel_rfl)
def qpT(n:Nat):LK Tryz.prog false:=mkL tab (qj7 n) [qpS n] Tryz.f31 [true,true,true,true,true,true,false,true,false,false] 0 n [.v (.t 6) T3,.v (.t 7) T3,.v (.t 48) T35,.v (.t 49) T3,.v (.t 50) T3,.obj (.t 4) false 83 1,.obj (.c 0 0) false 88 14,.v (.c 1 0) T88,.obj (.t 8) false 22 1,.row (.c 2 0) false T3 3,.fnc (.t 9) 60 [.al 0,.al 2]] [(.exit 0,[.obj (.t 4) false 83 1,.obj (.c 0 0) false 88 14,.v (.c 1 0) T88,.obj (.t 8) false 22 1,.row (.c 2 0) false T3 3,.fnc (.t 9) 60 [.al 0,.al 2]])] (by kernel_rfl)
def qpU(n:Nat):LK Tryz.prog false:=mkL tab (qj7 n) [] Tryz.f31 [true,true,true,true,true,true,true,false,true,false,false] 2 n [.v (.t 95) T39,.v (.t 96) T3,.v (.t 97) T3,.obj (.t 4) false 83 1,.obj (.c 0 0) false 88 14,.v (.c 1 0) T88,.obj (.t 8) false 22 1,.row (.c 2 0) false T3 3,.fnc (.t 9) 60 [.al 0,.al 2]] [(.exit 4,[.obj (.t 8) false 22 1,.row (.c 0 0) false T3 3])] (by kernel_rfl)
def qnb(n:Nat):Ct Tryz.prog:=mkC tab (qj7 n) [qpT n,qpU n] Tryz.func31 [.d T41] [T22,T24] (by kernel_rfl)
end
noncomputable section
noncomputable def qrS(n:Nat):CL Tryz.prog:=⟨[],[],0,nof⟩
def qfS(n:Nat):Ct Tryz.prog:=mkC tab (qrS n) [] Tryz.func44 [.d T3,.d T3,.d T3] [T4] (by kernel_rfl)
noncomputable def qlv(n:Nat):CL Tryz.prog:=⟨[qfS n],[],0,nof⟩
def qlw(n:Nat):LK Tryz.prog false:=mkL tab (qlv n) [] Tryz.f28 [true,true,false,true,false,false] 0 n [.v (.t 0) T22,.v (.t 3) T3,.v (.t 4) T3] [(.exit 0,[.v (.t 0) T22,.v (.t 3) T3]),(.ret,[.v (.t 2) T4])] (by kernel_rfl)
def ql0(n:Nat):Ct Tryz.prog:=mkC tab (qlv n) [qlw n] Tryz.func28 [.d T22] [T4] (by kernel_rfl)
noncomputable def qrT(n:Nat):CL Tryz.prog:=⟨[qfS n],[],0,nof⟩
def qnv(n:Nat):Ct Tryz.prog:=mkC tab (qrT n) [] Tryz.func76 [.d T41,.d T3] [T4] (by kernel_rfl)
noncomputable def qh8(n:Nat):CL Tryz.prog:=⟨[qfS n],[],0,nof⟩
def qlx(n:Nat):LK Tryz.prog false:=mkL tab (qh8 n) [] Tryz.f75 [true,false,true,false,false,true,false,false,true,true,true,false,false] 1 n [.v (.t 3) T3,.v (.t 5) T3,.obj (.t 1) false 41 13,.v (.c 0 0) T41,.obj (.t 4) false 112 3,.v (.c 1 0) T112] [(.exit 2,[.v (.t 3) T3,.obj (.t 1) false 41 13,.v (.c 0 0) T41]),(.ret,[.v (.t 2) T4])] (by kernel_rfl)
def qly(n:Nat):LK Tryz.prog false:=mkL tab (qh8 n) [qlx n] Tryz.f75 [true,false,true,false,false] 0 n [.v (.t 3) T3,.obj (.t 1) false 41 13,.v (.c 0 0) T41] [(.exit 0,[.obj (.t 1) false 41 13,.v (.c 0 0) T41]),(.ret,[.v (.t 2) T4])] (by kernel_rfl)
def ql1(n:Nat):Ct Tryz.prog:=mkC tab (qh8 n) [qly n] Tryz.func75 [.d T41] [T4] (by kernel_rfl)
noncomputable def qhC(n:Nat):CL Tryz.prog:=⟨[ql0 n,qfS n,qnR n,ql1 n,qnv n],[],0,nof⟩
def qnw(n:Nat):LK Tryz.prog false:=mkL tab (qhC n) [] Tryz.f34 [true,true,true,false,true,false,false] 0 n [.v (.t 4) T3,.obj (.t 1) false 41 13,.v (.c 0 0) T41] [(.exit 0,[.obj (.t 1) false 41 13,.v (.c 0 0) T41]),(.ret,[.v (.t 2) T24])] (by kernel_rfl)
def qnx(n:Nat):LK Tryz.prog false:=mkL tab (qhC n) [] Tryz.f34 [true,true,true,true,false,true,false,false] 1 n [.v (.t 5) T3,.obj (.t 1) false 41 13,.v (.c 0 0) T41] [(.exit 2,[.obj (.t 1) false 41 13,.v (.c 0 0) T41]),(.ret,[.v (.t 2) T24])] (by kernel_rfl)
def qny(n:Nat):LK Tryz.prog false:=mkL tab (qhC n) [] Tryz.f34 [true,true,true,true,true,false,true,false,false] 2 n [.v (.t 6) T3,.obj (.t 1) false 41 13,.v (.c 0 0) T41] [(.exit 4,[.obj (.t 1) false 41 13,.v (.c 0 0) T41]),(.ret,[.v (.t 2) T24])] (by kernel_rfl)
def qn4(n:Nat):Ct Tryz.prog:=mkC tab (qhC n) [qnw n,qnx n,qny n] Tryz.func34 [.d T41] [T24] (by kernel_rfl)
noncomputable def qoz(n:Nat):CL Tryz.prog:=⟨[qpp n],[],0,nof⟩
def qoA(n:Nat):LK Tryz.prog false:=mkL tab (qoz n) [] Tryz.f18 [true,true,false,true,false,false] 0 n [.v (.t 3) T3,.obj (.t 1) false 41 13,.v (.c 0 0) T41] [(.exit 0,[]),(.ret,[.v (.t 2) T4])] (by kernel_rfl)
def qpt(n:Nat):Ct Tryz.prog:=mkC tab (qoz n) [qoA n] Tryz.func18 [.d T41] [T4] (by kernel_rfl)
noncomputable def qq2(n:Nat):CL Tryz.prog:=⟨[qrP n],[],0,nof⟩
def qmR(n:Nat):Ct Tryz.prog:=mkC tab (qq2 n) [] Tryz.func38 [] [T41] (by kernel_rfl)
end
end Go.Proofs.YtlmicgmhallkkaaGreatDoor
/- The contract of math/bits.TrailingZeros, by hand: it reads a table that is a package variable. -/
namespace Go.Proofs.YtlmicgmhallkkaaGreatDoor
open Go Go.Proofs Go.RowKit Go.Shelf
set_option maxHeartbeats 800000
attribute [local go_sem] Oper.semAt_some
def tz(s:Nat):Nat:=if s % 2=1 then 0 else if s % 4=2 then 1 else if s % 8=4 then 2 else if s % 16=8 then 3 else if s % 32=16 then 4 else if s % 64=32 then 5 else if s % 128=64 then 6 else 7
theorem qy6(s:Nat):tz s<8:=by unfold tz;repeat' split<;>try omega
def jj(k:Nat):Nat:=2 ^ k*285870213051353865 % 18446744073709551616/288230376151711744
theorem qHl(k:Nat)(hk:k<8):jj k<64:=by revert k;decide +kernel
theorem qGz(s:Nat):s<256→0<s→bits BinOp.and IntKind.u64 (s:Int) (IntKind.u64.wrap (-(s:Int)))=((2 ^ tz s:Nat):Int):=by
 revert s;decide +kernel
theorem qC1(k:Nat):k<8→IntKind.u64.wrap (((2 ^ k:Nat):Int)*285870213051353865)/288230376151711744=((jj k:Nat):Int):=by
 revert k;decide +kernel
theorem qEB(s:Nat)(hs:s<256)(h0:0<s):IntKind.u64.wrap (bits BinOp.and IntKind.u64 (s:Int) (IntKind.u64.wrap (-(s:Int)))*285870213051353865)/288230376151711744=((jj (tz s):Nat):Int):=by
 rw[qGz s hs h0];exact qC1 _ (qy6 s)
def qBU(w:World):Prop:=1<w.heap.size∧∀k,k<8→w.cell? ⟨1,jj k,none⟩=some (.int .u8 (k:Int))
theorem qC2(s k idx:Nat)(w:World)(hs0:((s:Int)==0)=false)
  (hE:IntKind.u64.wrap (bits BinOp.and IntKind.u64 (s:Int) (IntKind.u64.wrap (-(s:Int)))*285870213051353865)/288230376151711744=(idx:Int))
  (hj:idx<64) (hk:k<8) (hc:w.cell? ⟨1,idx,none⟩=some (.int .u8 (k:Int))) :
  Calls Tryz.prog 125 #[.int .u64 s] w fun e w'=>e = .returned (.int .i64 k)∧w=w':=by
 go_enter Tryz.func125,Tryz.ntmps125
 go_wp2_with fail
 go_ret
 exact ⟨rfl,rfl⟩
theorem qEC(s:Nat)(w:World)(hs:s<256)(h0:0<s)(ht:qBU w):Calls Tryz.prog 125 #[.int .u64 s] w fun e w'=>e = .returned (.int .i64 (tz s))∧w=w' :=
 qC2 s (tz s) (jj (tz s)) w (by simp;omega) (qEB s hs h0) (qHl (tz s) (qy6 s)) (qy6 s) (ht.2 (tz s) (qy6 s))
theorem qFR(s:Nat)(w:World)(hs:s<256)(h0:0<s)(ht:qBU w):Calls Tryz.prog 84 #[.int .u64 s] w fun e w'=>e = .returned (.int .i64 (tz s))∧w=w':=by
 have hs0:(0:Int)≤s:=by omega
 go_enter Tryz.func84,Tryz.ntmps84
 go_wp2_with (go_at_call 125;refine (qEC _ _ hs h0 ht).mono ?_;rintro e w1 ⟨rfl,rfl⟩)
 go_ret
 exact ⟨rfl,rfl⟩
theorem qC3:∀k,k<8→(1,(jj k,Value.int .u8 (k:Int)))∈gTab
 | 0,_=>List.mem_of_getElem? (i:=0) rfl
 | 1,_=>List.mem_of_getElem? (i:=1) rfl
 | 2,_=>List.mem_of_getElem? (i:=2) rfl
 | 3,_=>List.mem_of_getElem? (i:=3) rfl
 | 4,_=>List.mem_of_getElem? (i:=4) rfl
 | 5,_=>List.mem_of_getElem? (i:=5) rfl
 | 6,_=>List.mem_of_getElem? (i:=6) rfl
 | 7,_=>List.mem_of_getElem? (i:=7) rfl
 | k+8,h=>absurd h (by omega)
theorem qED{w:World}(h:Gl w):qBU w:=⟨h.lt (qC3 0 (by decide)),fun k hk=>h _ (qC3 k hk)⟩
def tzB(x:Int):Bool:=decide (0<x)&&decide (x<256)
noncomputable def tz_M(n:Nat)(x:qgM [.d (.i .u64)]):Option (qV [.i .i64]):=cond (tzB x.1) (some ((tz (Int.toNat x.1):Int),())) none
noncomputable def tz_C(n:Nat):Ct Tryz.prog:=⟨84,[.d (.i .u64)],.ts [.i .i64],tz_M n,fun x y h=>by
 obtain ⟨z,u⟩:=x
 change Int at z
 unfold tz_M at h
 cases hc:tzB z with
 | false=>simp only[hc,cond_false] at h;cases h
 | true =>
  simp only[hc,cond_true] at h
  injection h with h
  subst h
  unfold tzB at hc
  simp only[Bool.and_eq_true,decide_eq_true_eq] at hc
  obtain ⟨s,hs⟩:=Int.eq_ofNat_of_zero_le (show 0≤z by omega)
  subst hs
  refine ⟨enters_of (c:=qv Tryz.f84) Tryz.func84 (by kernel_rfl) (by kernel_rfl),fun w S vs hG hn henc=>?_⟩
  have h0:=henc 0 (.val (.int .u64 s)) rfl
  obtain ⟨v,rfl⟩:∃v,vs = #[v]:=by
   obtain ⟨l⟩:=vs
   match l,hn with
   | [v],_=>exact ⟨v,rfl⟩
  have h1:v = .int .u64 s:=h0.val_eq
  subst h1
  refine (qFR s w (by omega) (by omega) (qED hG)).mono fun e w' ⟨e1,e2⟩=>?_
  subst e2
  exact ⟨Ext.refl _,_,e1,.val _⟩⟩
noncomputable section
noncomputable def qiF(n:Nat):CL Tryz.prog:=⟨[],[],0,fun _=>false⟩
noncomputable def ql2(n:Nat):Nat→St→PT (DEx×St):=fun _ _=>.fail
theorem qq3(n:Nat):qbj (qiF n).c (qv Tryz.f48) 0=[]:=by kernel_rfl
theorem qq4:Tryz.f48.body=some (qv Tryz.f48):=by kernel_rfl
abbrev qiG:List It:=[.raw (.t 0)]
abbrev qh9:List (List It):=[[.row (.t 0) false T3 3]]
noncomputable def qgK(n:Nat)(x:qg qiG):Option (qbC qh9):=runW tab (qiF n) (ql2 n) (qv Tryz.f48) qiG 1 8 [.tmp 2] qh9 x
noncomputable def qq5(n:Nat):Cw Tryz.prog:=⟨48,1,qiG,1,qh9,qgK n,fun _ _ h=>qmJ (B:=tab) (cs:=qiF n) (lo:=ql2 n) (rs:=[.tmp 2]) Tryz.func48 (by kernel_rfl) qq4 (by kernel_rfl) (by decide) (qkD (qq3 n) all_nil) h⟩
noncomputable def qkI(n:Nat):CL Tryz.prog:=⟨[],[],0,fun _=>false⟩
noncomputable def qn5(n:Nat):Nat→St→PT (DEx×St):=fun _ _=>.fail
theorem qtP(n:Nat):qbj (qkI n).c (qv Tryz.f48) 0=[]:=by kernel_rfl
theorem qtQ:Tryz.f48.body=some (qv Tryz.f48):=by kernel_rfl
abbrev qkJ:List It:=[.v (.t 0) T22]
abbrev qhD:List (List It):=[[.row (.t 0) false T3 3]]
noncomputable def qoB(n:Nat)(x:qg qkJ):Option (qbC qhD):=runW tab (qkI n) (qn5 n) (qv Tryz.f48) qkJ 1 8 [.tmp 2] qhD x
noncomputable def qtR(n:Nat):Cw Tryz.prog:=⟨48,1,qkJ,1,qhD,qoB n,fun _ _ h=>qmJ (B:=tab) (cs:=qkI n) (lo:=qn5 n) (rs:=[.tmp 2]) Tryz.func48 (by kernel_rfl) qtQ (by kernel_rfl) (by decide) (qkD (qtP n) all_nil) h⟩
end
theorem qtS(n:Nat)(c:Nat):qgK n (.slice none 0 c,())=some ([],()):=by kernel_rfl
theorem qtT(n:Nat)(a:Addr)(c:Nat):qgK n (.slice (some a) 0 c,())=some ([],()):=by kernel_rfl
noncomputable def qoC(n:Nat):Cw Tryz.prog:=qA7 48 T3 qhD (qgK n) (qoB n) ([],()) (fun v y m0 h=>(qq5 n).okk (x:=(v,())) (y:=y) h m0 (qto m0)) (fun l y m0 h=>(qtR n).okk (x:=(l,())) (y:=y) h m0 (qto m0)) (fun A c=>by cases A with | none=>exact qtS n c | some a=>exact qtT n a c)
noncomputable def qtU(n:Nat):=(qoC n).M
noncomputable section
noncomputable def qmx(n:Nat):CL Tryz.prog:=⟨[],[],0,nof⟩
def qq6(n:Nat):LK Tryz.prog false:=mkL tab (qmx n) [] Tryz.f90 [true,false,true,false,false] 0 n [.v (.t 1) T3,.v (.t 11) T37,.v (.t 12) T3,.v (.t 13) T3,.obj (.t 0) true 88 14,.v (.c 0 0) T34,.v (.c 0 2) T35,.v (.c 0 3) T3,.row (.c 0 4) true T3 3,.v (.c 0 5) T36,.v (.c 0 6) T37,.v (.c 0 7) T38,.v (.c 0 8) T39,.v (.c 0 9) T3,.v (.c 0 10) T3,.v (.c 0 11) T3,.v (.c 0 12) T3,.v (.c 0 13) T35,.obj (.t 4) false 112 3,.v (.c 2 0) T112] [(.exit 0,[.v (.t 1) T3,.obj (.t 0) true 88 14,.v (.c 0 0) T34,.v (.c 0 2) T35,.v (.c 0 3) T3,.row (.c 0 4) true T3 3,.v (.c 0 5) T36,.v (.c 0 6) T37,.v (.c 0 7) T38,.v (.c 0 8) T39,.v (.c 0 9) T3,.v (.c 0 10) T3,.v (.c 0 11) T3,.v (.c 0 12) T3,.v (.c 0 13) T35,.obj (.t 4) false 112 3,.v (.c 2 0) T112]),(.ret,[.obj (.t 0) true 88 14,.v (.c 0 0) T34,.v (.c 0 2) T35,.v (.c 0 3) T3,.row (.c 0 4) true T3 3,.v (.c 0 5) T36,.v (.c 0 6) T37,.v (.c 0 7) T38,.v (.c 0 8) T39,.v (.c 0 9) T3,.v (.c 0 10) T3,.v (.c 0 11) T3,.v (.c 0 12) T3,.v (.c 0 13) T35,.obj (.t 4) false 112 3,.v (.c 2 0) T112])] (by kernel_rfl)
def qrU(n:Nat):Cw Tryz.prog:=mkW tab (qmx n) [qq6 n] Tryz.func90 [.v (.t 1) T3,.obj (.t 0) true 88 14,.v (.c 0 0) T34,.v (.c 0 2) T35,.v (.c 0 3) T3,.row (.c 0 4) true T3 3,.v (.c 0 5) T36,.v (.c 0 6) T37,.v (.c 0 7) T38,.v (.c 0 8) T39,.v (.c 0 9) T3,.v (.c 0 10) T3,.v (.c 0 11) T3,.v (.c 0 12) T3,.v (.c 0 13) T35] 2 [[.v (.t 0) T112,.obj (.t 1) true 88 14,.v (.c 0 0) T34,.v (.c 0 2) T35,.v (.c 0 3) T3,.row (.c 0 4) true T3 3,.v (.c 0 5) T36,.v (.c 0 6) T37,.v (.c 0 7) T38,.v (.c 0 8) T39,.v (.c 0 9) T3,.v (.c 0 10) T3,.v (.c 0 11) T3,.v (.c 0 12) T3,.v (.c 0 13) T35]] (by kernel_rfl)
noncomputable def qrV(n:Nat):CL Tryz.prog:=⟨[],[],0,nof⟩
def qnz(n:Nat):Cw Tryz.prog:=mkW tab (qrV n) [] Tryz.func128 [.v (.t 1) T3,.v (.t 2) T3,.obj (.t 0) true 88 14,.v (.c 0 0) T34,.v (.c 0 2) T35,.v (.c 0 3) T3,.row (.c 0 4) true T3 3,.v (.c 0 5) T36,.v (.c 0 6) T37,.v (.c 0 7) T38,.v (.c 0 8) T39,.v (.c 0 9) T3,.v (.c 0 10) T3,.v (.c 0 11) T3,.v (.c 0 12) T3,.v (.c 0 13) T35] 3 [[.v (.t 0) T4,.obj (.t 1) true 88 14,.v (.c 0 0) T34,.v (.c 0 2) T35,.v (.c 0 3) T3,.row (.c 0 4) true T3 3,.v (.c 0 5) T36,.v (.c 0 6) T37,.v (.c 0 7) T38,.v (.c 0 8) T39,.v (.c 0 9) T3,.v (.c 0 10) T3,.v (.c 0 11) T3,.v (.c 0 12) T3,.v (.c 0 13) T35]] (by kernel_rfl)
noncomputable def qo0(n:Nat):CL Tryz.prog:=⟨[],[qnz n],0,nof⟩
def qku(n:Nat):Cw Tryz.prog:=mkW tab (qo0 n) [] Tryz.func129 [.v (.t 0) T64,.obj (.t 1) true 3 1,.v (.c 0 0) T3,.obj (.t 2) true 83 1,.obj (.c 1 0) true 88 14,.v (.c 2 0) T34,.v (.c 2 2) T35,.v (.c 2 3) T3,.row (.c 2 4) true T3 3,.v (.c 2 5) T36,.v (.c 2 6) T37,.v (.c 2 7) T38,.v (.c 2 8) T39,.v (.c 2 9) T3,.v (.c 2 10) T3,.v (.c 2 11) T3,.v (.c 2 12) T3,.v (.c 2 13) T35,.obj (.t 3) true 3 1,.v (.c 4 0) T3] 4 [[.v (.t 0) T4,.obj (.t 1) true 3 1,.v (.c 0 0) T3,.obj (.t 2) true 83 1,.obj (.c 1 0) true 88 14,.v (.c 2 0) T34,.v (.c 2 2) T35,.v (.c 2 3) T3,.row (.c 2 4) true T3 3,.v (.c 2 5) T36,.v (.c 2 6) T37,.v (.c 2 7) T38,.v (.c 2 8) T39,.v (.c 2 9) T3,.v (.c 2 10) T3,.v (.c 2 11) T3,.v (.c 2 12) T3,.v (.c 2 13) T35,.obj (.t 5) true 3 1,.v (.c 4 0) T3]] (by kernel_rfl)
noncomputable def qdL(n:Nat):CL Tryz.prog:=⟨[],[qku n],0,nof⟩
def qhk(n:Nat):LK Tryz.prog false:=mkL tab (qdL n) [] Tryz.f145 [true,false,true,false,false] 0 n [.v (.t 0) T38,.v (.t 7) T3,.v (.t 8) T3,.fnc (.t 1) 129 [.box true 3 1,.box true 83 1,.box true 3 1],.v (.c 0 0) T3,.obj (.c 1 0) true 88 14,.v (.c 3 0) T34,.v (.c 3 2) T35,.v (.c 3 3) T3,.row (.c 3 4) true T3 3,.v (.c 3 5) T36,.v (.c 3 6) T37,.v (.c 3 7) T38,.v (.c 3 8) T39,.v (.c 3 9) T3,.v (.c 3 10) T3,.v (.c 3 11) T3,.v (.c 3 12) T3,.v (.c 3 13) T35,.v (.c 2 0) T3] [(.exit 0,[.fnc (.t 1) 129 [.box true 3 1,.box true 83 1,.box true 3 1],.v (.c 0 0) T3,.obj (.c 1 0) true 88 14,.v (.c 3 0) T34,.v (.c 3 2) T35,.v (.c 3 3) T3,.row (.c 3 4) true T3 3,.v (.c 3 5) T36,.v (.c 3 6) T37,.v (.c 3 7) T38,.v (.c 3 8) T39,.v (.c 3 9) T3,.v (.c 3 10) T3,.v (.c 3 11) T3,.v (.c 3 12) T3,.v (.c 3 13) T35,.v (.c 2 0) T3]),(.ret,[.v (.t 4) T3,.fnc (.t 1) 129 [.box true 3 1,.box true 83 1,.box true 3 1],.v (.c 0 0) T3,.obj (.c 1 0) true 88 14,.v (.c 3 0) T34,.v (.c 3 2) T35,.v (.c 3 3) T3,.row (.c 3 4) true T3 3,.v (.c 3 5) T36,.v (.c 3 6) T37,.v (.c 3 7) T38,.v (.c 3 8) T39,.v (.c 3 9) T3,.v (.c 3 10) T3,.v (.c 3 11) T3,.v (.c 3 12) T3,.v (.c 3 13) T35,.v (.c 2 0) T3])] (by kernel_rfl)
def qhp(n:Nat):Cw Tryz.prog:=mkW tab (qdL n) [qhk n] Tryz.func145 [.v (.t 0) T38,.fnc (.t 1) 129 [.box true 3 1,.box true 83 1,.box true 3 1],.v (.c 0 0) T3,.obj (.c 1 0) true 88 14,.v (.c 3 0) T34,.v (.c 3 2) T35,.v (.c 3 3) T3,.row (.c 3 4) true T3 3,.v (.c 3 5) T36,.v (.c 3 6) T37,.v (.c 3 7) T38,.v (.c 3 8) T39,.v (.c 3 9) T3,.v (.c 3 10) T3,.v (.c 3 11) T3,.v (.c 3 12) T3,.v (.c 3 13) T35,.v (.c 2 0) T3] 2 [[.v (.t 0) T3,.obj (.t 1) true 3 1,.obj (.t 2) true 83 1,.obj (.t 3) true 3 1,.v (.c 0 0) T3,.obj (.c 1 0) true 88 14,.v (.c 3 0) T34,.v (.c 3 2) T35,.v (.c 3 3) T3,.row (.c 3 4) true T3 3,.v (.c 3 5) T36,.v (.c 3 6) T37,.v (.c 3 7) T38,.v (.c 3 8) T39,.v (.c 3 9) T3,.v (.c 3 10) T3,.v (.c 3 11) T3,.v (.c 3 12) T3,.v (.c 3 13) T35,.v (.c 2 0) T3]] (by kernel_rfl)
noncomputable def qgN(n:Nat):CL Tryz.prog:=⟨[],[qfu n,qku n,qhp n],0,nof⟩
def qg0(n:Nat):Cw Tryz.prog:=mkW tab (qgN n) [] Tryz.func109 [.v (.t 0) T38,.fnc (.t 1) 129 [.box true 3 1,.box true 83 1,.box true 3 1],.v (.c 0 0) T3,.obj (.c 1 0) true 88 14,.v (.c 3 0) T34,.v (.c 3 2) T35,.v (.c 3 3) T3,.row (.c 3 4) true T3 3,.v (.c 3 5) T36,.v (.c 3 6) T37,.v (.c 3 7) T38,.v (.c 3 8) T39,.v (.c 3 9) T3,.v (.c 3 10) T3,.v (.c 3 11) T3,.v (.c 3 12) T3,.v (.c 3 13) T35,.v (.c 2 0) T3] 2 [[.v (.t 0) T4,.obj (.t 1) true 3 1,.obj (.t 2) true 83 1,.obj (.t 3) true 3 1,.v (.c 0 0) T3,.obj (.c 1 0) true 88 14,.v (.c 3 0) T34,.v (.c 3 2) T35,.v (.c 3 3) T3,.row (.c 3 4) true T3 3,.v (.c 3 5) T36,.v (.c 3 6) T37,.v (.c 3 7) T38,.v (.c 3 8) T39,.v (.c 3 9) T3,.v (.c 3 10) T3,.v (.c 3 11) T3,.v (.c 3 12) T3,.v (.c 3 13) T35,.v (.c 2 0) T3]] (by kernel_rfl)
noncomputable def qpM(n:Nat):CL Tryz.prog:=⟨[],[qg0 n,qnz n],0,nof⟩
def qqb(n:Nat):Cw Tryz.prog:=mkW tab (qpM n) [] Tryz.func91 [.v (.t 1) T3,.v (.t 2) T3,.obj (.t 0) true 88 14,.v (.c 0 0) T34,.v (.c 0 2) T35,.v (.c 0 3) T3,.row (.c 0 4) true T3 3,.v (.c 0 5) T36,.v (.c 0 6) T37,.v (.c 0 7) T38,.v (.c 0 8) T39,.v (.c 0 9) T3,.v (.c 0 10) T3,.v (.c 0 11) T3,.v (.c 0 12) T3,.v (.c 0 13) T35] 3 [[.v (.t 0) T4,.obj (.t 1) true 88 14,.v (.c 0 0) T34,.v (.c 0 2) T35,.v (.c 0 3) T3,.row (.c 0 4) true T3 3,.v (.c 0 5) T36,.v (.c 0 6) T37,.v (.c 0 7) T38,.v (.c 0 8) T39,.v (.c 0 9) T3,.v (.c 0 10) T3,.v (.c 0 11) T3,.v (.c 0 12) T3,.v (.c 0 13) T35]] (by kernel_rfl)
noncomputable def qrW(n:Nat):CL Tryz.prog:=⟨[qtq n],[qrU n,qqb n],0,nof⟩
def qsu(n:Nat):Cw Tryz.prog:=mkW tab (qrW n) [] Tryz.func50 [.v (.t 1) T91,.v (.t 2) T95,.obj (.t 0) true 88 14,.v (.c 0 0) T34,.v (.c 0 2) T35,.v (.c 0 3) T3,.row (.c 0 4) true T3 3,.v (.c 0 5) T36,.v (.c 0 6) T37,.v (.c 0 7) T38,.v (.c 0 8) T39,.v (.c 0 9) T3,.v (.c 0 10) T3,.v (.c 0 11) T3,.v (.c 0 12) T3,.v (.c 0 13) T35] 3 [[.v (.t 0) T3,.v (.t 1) T3,.obj (.t 2) true 88 14,.v (.c 0 0) T34,.v (.c 0 2) T35,.v (.c 0 3) T3,.row (.c 0 4) true T3 3,.v (.c 0 5) T36,.v (.c 0 6) T37,.v (.c 0 7) T38,.v (.c 0 8) T39,.v (.c 0 9) T3,.v (.c 0 10) T3,.v (.c 0 11) T3,.v (.c 0 12) T3,.v (.c 0 13) T35]] (by kernel_rfl)
noncomputable def ql3(n:Nat):CL Tryz.prog:=⟨[],[qsu n],0,nof⟩
def quF(n:Nat):LK Tryz.prog false:=mkL tab (ql3 n) [] Tryz.f49 [true,true,true,false,true,false,false,true,true,false,false,true,true,false,false] 1 n [.v (.t 6) T3,.v (.t 24) T35,.v (.t 25) T3,.v (.t 26) T3,.v (.t 31) T89,.v (.t 32) T3,.v (.t 33) T3,.obj (.t 1) true 83 1,.obj (.c 0 0) true 88 14,.v (.c 1 0) T34,.v (.c 1 2) T35,.v (.c 1 3) T3,.row (.c 1 4) true T3 3,.v (.c 1 5) T36,.v (.c 1 6) T37,.v (.c 1 7) T38,.v (.c 1 8) T39,.v (.c 1 9) T3,.v (.c 1 10) T3,.v (.c 1 11) T3,.v (.c 1 12) T3,.v (.c 1 13) T35,.obj (.t 2) true 3 1,.v (.c 3 0) T3,.obj (.t 3) true 3 1,.v (.c 4 0) T3,.obj (.t 8) false 91 5,.v (.c 5 0) T91] [(.exit 2,[.v (.t 6) T3,.v (.t 24) T35,.v (.t 25) T3,.v (.t 26) T3,.obj (.t 1) true 83 1,.obj (.c 0 0) true 88 14,.v (.c 1 0) T34,.v (.c 1 2) T35,.v (.c 1 3) T3,.row (.c 1 4) true T3 3,.v (.c 1 5) T36,.v (.c 1 6) T37,.v (.c 1 7) T38,.v (.c 1 8) T39,.v (.c 1 9) T3,.v (.c 1 10) T3,.v (.c 1 11) T3,.v (.c 1 12) T3,.v (.c 1 13) T35,.obj (.t 2) true 3 1,.v (.c 3 0) T3,.obj (.t 3) true 3 1,.v (.c 4 0) T3])] (by kernel_rfl)
def quG(n:Nat):LK Tryz.prog false:=mkL tab (ql3 n) [quF n] Tryz.f49 [true,true,true,false,true,false,false] 0 n [.v (.t 6) T3,.v (.t 24) T35,.v (.t 25) T3,.v (.t 26) T3,.obj (.t 1) true 83 1,.obj (.c 0 0) true 88 14,.v (.c 1 0) T34,.v (.c 1 2) T35,.v (.c 1 3) T3,.row (.c 1 4) true T3 3,.v (.c 1 5) T36,.v (.c 1 6) T37,.v (.c 1 7) T38,.v (.c 1 8) T39,.v (.c 1 9) T3,.v (.c 1 10) T3,.v (.c 1 11) T3,.v (.c 1 12) T3,.v (.c 1 13) T35,.obj (.t 2) true 3 1,.v (.c 3 0) T3,.obj (.t 3) true 3 1,.v (.c 4 0) T3] [(.exit 0,[.v (.t 6) T3,.obj (.t 1) true 83 1,.obj (.c 0 0) true 88 14,.v (.c 1 0) T34,.v (.c 1 2) T35,.v (.c 1 3) T3,.row (.c 1 4) true T3 3,.v (.c 1 5) T36,.v (.c 1 6) T37,.v (.c 1 7) T38,.v (.c 1 8) T39,.v (.c 1 9) T3,.v (.c 1 10) T3,.v (.c 1 11) T3,.v (.c 1 12) T3,.v (.c 1 13) T35,.obj (.t 2) true 3 1,.v (.c 3 0) T3,.obj (.t 3) true 3 1,.v (.c 4 0) T3])] (by kernel_rfl)
def qpV(n:Nat):Cw Tryz.prog:=mkW tab (ql3 n) [quG n] Tryz.func49 [.v (.t 0) T3,.obj (.t 1) true 83 1,.obj (.c 0 0) true 88 14,.v (.c 1 0) T34,.v (.c 1 2) T35,.v (.c 1 3) T3,.row (.c 1 4) true T3 3,.v (.c 1 5) T36,.v (.c 1 6) T37,.v (.c 1 7) T38,.v (.c 1 8) T39,.v (.c 1 9) T3,.v (.c 1 10) T3,.v (.c 1 11) T3,.v (.c 1 12) T3,.v (.c 1 13) T35,.obj (.t 2) true 3 1,.v (.c 3 0) T3,.obj (.t 3) true 3 1,.v (.c 4 0) T3] 4 [[.v (.t 0) T4,.obj (.t 1) true 83 1,.obj (.c 0 0) true 88 14,.v (.c 1 0) T34,.v (.c 1 2) T35,.v (.c 1 3) T3,.row (.c 1 4) true T3 3,.v (.c 1 5) T36,.v (.c 1 6) T37,.v (.c 1 7) T38,.v (.c 1 8) T39,.v (.c 1 9) T3,.v (.c 1 10) T3,.v (.c 1 11) T3,.v (.c 1 12) T3,.v (.c 1 13) T35,.obj (.t 4) true 3 1,.v (.c 3 0) T3,.obj (.t 5) true 3 1,.v (.c 4 0) T3]] (by kernel_rfl)
noncomputable def qsv(n:Nat):CL Tryz.prog:=⟨[qd3 n],[qm0 n,qoC n,qpV n],2,nof⟩
def qsw(n:Nat):LK Tryz.prog false:=mkL tab (qsv n) [] Tryz.f19 [true,true,true,true,true,true,true,true,false,false,false] 0 n [.v (.t 11) T3,.v (.t 12) T3,.obj (.t 4) false 3 1,.v (.c 0 0) T3,.obj (.t 5) false 3 1,.v (.c 1 0) T3,.obj (.t 8) false 83 1,.obj (.c 2 0) false 88 14,.v (.c 3 0) T34,.v (.c 3 2) T35,.v (.c 3 3) T3,.row (.c 3 4) false T3 3,.v (.c 3 5) T36,.v (.c 3 6) T37,.v (.c 3 7) T38,.v (.c 3 8) T39,.v (.c 3 9) T3,.v (.c 3 10) T3,.v (.c 3 11) T3,.v (.c 3 12) T3,.v (.c 3 13) T35,.fnc (.t 10) 49 [.al 2,.al 0,.al 1]] [(.exit 0,[.v (.t 12) T3])] (by kernel_rfl)
def qtK(n:Nat):Ct Tryz.prog:=mkC tab (qsv n) [qsw n] Tryz.func19 [.d T41,.d T3,.d T3] [T3,T24] (by kernel_rfl)
end
noncomputable section
noncomputable def qsx(n:Nat):CL Tryz.prog:=⟨[qd3 n],[],0,nof⟩
def qxH(n:Nat):LK Tryz.prog false:=mkL tab (qsx n) [] Tryz.f40 [true,true,true,false,true,false,false] 0 n [.v (.t 0) T22,.v (.t 4) T3,.v (.t 10) T22,.v (.t 11) T3,.v (.t 12) T3] [(.exit 0,[.v (.t 0) T22,.v (.t 4) T3]),(.ret,[.v (.t 2) T72,.v (.t 3) T24])] (by kernel_rfl)
def qyT(n:Nat):Ct Tryz.prog:=mkC tab (qsx n) [qxH n] Tryz.func40 [.d T22] [T72,T24] (by kernel_rfl)
noncomputable def qn6(n:Nat):CL Tryz.prog:=⟨[],[],0,nof⟩
def qtr(n:Nat):LK Tryz.prog false:=mkL tab (qn6 n) [] Tryz.f42 [true,false,true,false,false] 0 n [.v (.t 2) T70,.v (.t 5) T72,.v (.t 6) T3,.v (.t 7) T3] [(.exit 0,[.v (.t 2) T70])] (by kernel_rfl)
def qtV(n:Nat):Ct Tryz.prog:=mkC tab (qn6 n) [qtr n] Tryz.func42 [.d T72] [T70] (by kernel_rfl)
noncomputable def qoD(n:Nat):CL Tryz.prog:=⟨[tz_C n],[],0,nof⟩
def qtW(n:Nat):LK Tryz.prog false:=mkL tab (qoD n) [] Tryz.f83 [true,false,false,false] 0 n [.v (.t 0) T72,.v (.t 1) T70,.v (.t 4) T3] [(.exit 0,[.v (.t 4) T3])] (by kernel_rfl)
def quH(n:Nat):Ct Tryz.prog:=mkC tab (qoD n) [qtW n] Tryz.func83 [.d T72,.d T70] [T3] (by kernel_rfl)
abbrev qt:List It:=[.v (.t 0) T70,.obj (.t 1) true 133 1,.mpi (.c 0 0) true T70 T75,.obj (.t 2) true 72 1,.v (.c 2 0) T72,.obj (.t 3) true 76 1,.fnc (.c 3 0) 82 [.al 0,.al 2,.al 3]]
abbrev qq:List (List It):=[[.v (.t 0) T75,.obj (.t 1) true 133 1,.mpi (.c 0 0) true T70 T75,.obj (.t 3) true 72 1,.v (.c 2 0) T72,.obj (.t 4) true 76 1,.fnc (.c 3 0) 82 [.al 0,.al 2,.al 3]]]
abbrev qh:Type:={g:qg qt→Option (qbC qq) // qru Tryz.prog 82 4 qt 1 qq g}
noncomputable def qM(n:Nat)(g:qh):CL Tryz.prog:=⟨[quH n],[⟨82,4,qt,1,qq,g.1,g.2⟩],0,fun _=>false⟩
noncomputable def qeI(n:Nat)(g:qh):Nat→St→PT (DEx×St):=fun _ _=>.fail
abbrev q6:List It:=[.v (.t 0) T70,.v (.t 8) T70,.v (.t 9) T70,.v (.t 11) T70,.obj (.t 1) true 133 1,.mpi (.c 0 0) true T70 T75,.obj (.t 2) true 72 1,.v (.c 2 0) T72,.obj (.t 3) true 76 1,.fnc (.c 3 0) 82 [.al 0,.al 2,.al 3],.row (.t 10) false T70 70]
abbrev qbz:List (DEx×List It):=[(.exit 0,[.v (.t 0) T70,.obj (.t 1) true 133 1,.mpi (.c 0 0) true T70 T75,.obj (.t 2) true 72 1,.v (.c 2 0) T72,.obj (.t 3) true 76 1,.fnc (.c 3 0) 82 [.al 0,.al 2,.al 3],.row (.t 10) false T70 70])]
noncomputable def qiV(n:Nat)(g:qh)(rec:qg q6→Option (qbD qbz))(s:qg q6):Option (qbD qbz):=(qgd tab (qM n g) (qeI n g) (subC [true,true,true,true,true,false,true,false,false] (qv Tryz.f82)) 1 (mkS q6 62 s)).run (Lp.leaf 62 q6 qbz rec)
noncomputable def qcJ(n:Nat)(g:qh):Lp:=⟨62,q6,qbz,qb n (qiV n g)⟩
theorem qiW(n:Nat)(g:qh):qbj (qM n g).c (subC [true,true,true,true,true,false,true,false,false] (qv Tryz.f82)) 1=[]:=by kernel_rfl
theorem qia(n:Nat)(g:qh)(st:St)(r:DEx×St)(h:((qcJ n g).go st).Is r):DA Tryz.prog false (.loop (subC [true,true,true,true,true,false,true,false,false] (qv Tryz.f82))) st r:=Lp.ok (L:=qcJ n g) (B:=tab) (cs:=qM n g) (lo:=qeI n g) (id:=0) rfl (qkD (qiW n g) all_nil) (fun _ _=>rfl) h
noncomputable def qeQ(n:Nat)(g:qh):Nat→St→PT (DEx×St):=fun k st=>match k with
 | 0=>(qcJ n g).go st
 | _=>.fail
theorem qi4(n:Nat)(g:qh):qbj (qM n g).c (qv Tryz.f82) 0=[(0,.loop (subC [true,true,true,true,true,false,true,false,false] (qv Tryz.f82)))]:=by kernel_rfl
theorem qi5:Tryz.f82.body=some (qv Tryz.f82):=by kernel_rfl
noncomputable def qeR(n:Nat)(g:qh)(x:qg qt):Option (qbC qq):=runW tab (qM n g) (qeQ n g) (qv Tryz.f82) qt 4 62 [.tmp 5] qq x
theorem qiX(n:Nat)(g:qh):qru Tryz.prog 82 4 qt 1 qq (qeR n g):=fun _ _ h=>qmJ (B:=tab) (cs:=qM n g) (lo:=qeQ n g) (rs:=[.tmp 5]) Tryz.func82 (by kernel_rfl) qi5 (by kernel_rfl) (by decide) (qkD (qi4 n g) (all_cons (fun st r h=>qia n g st r h) all_nil)) h
noncomputable def qbJ(n:Nat):Nat→qh
 | 0=>⟨fun _=>none,fun _ _ h=>by cases h⟩
 | k+1=>⟨qeR n (qbJ n k),qiX n (qbJ n k)⟩
noncomputable def qi6(n:Nat)(x:qg qt):Option (qbC qq):=(qbJ n n).1 x
noncomputable def qi7(n:Nat):Cw Tryz.prog:=⟨82,4,qt,1,qq,qi6 n,(qbJ n n).2⟩
noncomputable def qrX(n:Nat):CL Tryz.prog:=⟨[],[qi7 n],0,nof⟩
def qsy(n:Nat):Ct Tryz.prog:=mkC tab (qrX n) [] Tryz.func41 [.d T72,.d T70] [T75] (by kernel_rfl)
noncomputable def qxI(n:Nat):CL Tryz.prog:=⟨[qgq n],[],0,nof⟩
def qpN(n:Nat):Ct Tryz.prog:=mkC tab (qxI n) [] Tryz.func86 [.d T138,.d T138] [T3] (by kernel_rfl)
noncomputable def qb3(n:Nat):CL Tryz.prog:=⟨[qpN n],[],0,nof⟩
def qhq(n:Nat):LK Tryz.prog false:=mkL tab (qb3 n) [] Tryz.f171 [true,false,false,true,false,false,true,false,false] 1 n [.v (.t 1) T3,.v (.t 2) T3,.fn (.t 3) 86 [] [],.v (.t 8) T3,.v (.t 9) T3,.row (.t 0) true T138 138] [(.exit 2,[.v (.t 1) T3,.v (.t 2) T3,.fn (.t 3) 86 [] [],.v (.t 8) T3,.row (.t 0) true T138 138])] (by kernel_rfl)
def qhr(n:Nat):LK Tryz.prog false:=mkL tab (qb3 n) [qhq n] Tryz.f171 [true,false,false] 0 n [.v (.t 1) T3,.v (.t 2) T3,.fn (.t 3) 86 [] [],.v (.t 8) T3,.row (.t 0) true T138 138] [(.exit 0,[.row (.t 0) true T138 138])] (by kernel_rfl)
def qhQ(n:Nat):Cw Tryz.prog:=mkW tab (qb3 n) [qhr n] Tryz.func171 [.v (.t 1) T3,.v (.t 2) T3,.fn (.t 3) 86 [] [],.row (.t 0) true T138 138] 4 [[.row (.t 0) true T138 138]] (by kernel_rfl)
noncomputable def qbK(n:Nat):CL Tryz.prog:=⟨[qpN n],[qhQ n],0,nof⟩
def qi8(n:Nat):LK Tryz.prog false:=mkL tab (qbK n) [] Tryz.f126 [true,true,false,false,false] 0 n [.v (.t 1) T3,.fn (.t 2) 86 [] [],.v (.t 6) T3,.v (.t 7) T3,.v (.t 8) T3,.row (.t 0) true T138 138] [(.exit 0,[.v (.t 1) T3,.fn (.t 2) 86 [] [],.v (.t 6) T3,.v (.t 7) T3,.row (.t 0) true T138 138])] (by kernel_rfl)
def qi9(n:Nat):LK Tryz.prog false:=mkL tab (qbK n) [] Tryz.f126 [true,true,true,true,false,false,true,false,true,false,false,false] 2 n [.v (.t 1) T3,.fn (.t 2) 86 [] [],.v (.t 6) T3,.v (.t 7) T3,.v (.t 8) T3,.row (.t 0) true T138 138] [(.exit 4,[.v (.t 1) T3,.fn (.t 2) 86 [] [],.v (.t 6) T3,.v (.t 7) T3,.row (.t 0) true T138 138])] (by kernel_rfl)
def qja(n:Nat):LK Tryz.prog false:=mkL tab (qbK n) [qi9 n] Tryz.f126 [true,true,true,true,false,false] 1 n [.v (.t 1) T3,.fn (.t 2) 86 [] [],.v (.t 6) T3,.row (.t 0) true T138 138] [(.exit 2,[.row (.t 0) true T138 138])] (by kernel_rfl)
def qjv(n:Nat):Cw Tryz.prog:=mkW tab (qbK n) [qi8 n,qja n] Tryz.func126 [.v (.t 1) T3,.fn (.t 2) 86 [] [],.row (.t 0) true T138 138] 3 [[.row (.t 0) true T138 138]] (by kernel_rfl)
noncomputable def qiY(n:Nat):CL Tryz.prog:=⟨[qpN n],[qjv n],0,nof⟩
def qjb(n:Nat):Cw Tryz.prog:=mkW tab (qiY n) [] Tryz.func85 [.fn (.t 1) 86 [] [],.row (.t 0) true T138 138] 2 [[.row (.t 0) true T138 138]] (by kernel_rfl)
noncomputable def qpu(n:Nat):CL Tryz.prog:=⟨[],[],0,nof⟩
def qk3(n:Nat):Ct Tryz.prog:=mkC tab (qpu n) [] Tryz.func88 [.d T138] [T4] (by kernel_rfl)
noncomputable def qcX(n:Nat):CL Tryz.prog:=⟨[qk3 n],[],0,nof⟩
def qgv(n:Nat):LK Tryz.prog false:=mkL tab (qcX n) [] Tryz.f127 [true,false,true,false,false] 0 n [.fn (.t 1) 88 [] [],.v (.t 7) T3,.v (.t 8) T3,.row (.t 0) true T138 138] [(.exit 0,[.row (.t 0) true T138 138]),(.ret,[.v (.t 4) T3,.row (.t 0) true T138 138])] (by kernel_rfl)
def qgD(n:Nat):Cw Tryz.prog:=mkW tab (qcX n) [qgv n] Tryz.func127 [.fn (.t 1) 88 [] [],.row (.t 0) true T138 138] 2 [[.v (.t 0) T3,.row (.t 1) true T138 138]] (by kernel_rfl)
noncomputable def qdq(n:Nat):CL Tryz.prog:=⟨[qk3 n],[qgD n],0,nof⟩
def qg1(n:Nat):LK Tryz.prog false:=mkL tab (qdq n) [] Tryz.f87 [true,true,true,false,true,false,false] 0 n [.fn (.t 1) 88 [] [],.v (.t 5) T3,.v (.t 6) T3,.row (.t 0) true T138 138] [(.exit 0,[.v (.t 5) T3,.row (.t 0) true T138 138])] (by kernel_rfl)
def qg7(n:Nat):Cw Tryz.prog:=mkW tab (qdq n) [qg1 n] Tryz.func87 [.fn (.t 1) 88 [] [],.row (.t 0) true T138 138] 2 [[.row (.t 1) true T138 138,.sub (.t 0) 0]] (by kernel_rfl)
noncomputable def qib(n:Nat):CL Tryz.prog:=⟨[tz_C n],[qjb n,qg7 n],1,nof⟩
def qqc(n:Nat):LK Tryz.prog false:=mkL tab (qib n) [] Tryz.f43 [true,true,false,false,false] 0 n [.v (.t 0) T72,.v (.t 1) T70,.row (.t 4) false T80 80,.row (.t 5) false T138 138] [(.exit 0,[.row (.t 4) false T80 80,.row (.t 5) false T138 138])] (by kernel_rfl)
def qqd(n:Nat):LK Tryz.prog false:=mkL tab (qib n) [] Tryz.f43 [true,true,true,false,false,false] 1 n [.row (.t 4) false T80 80,.row (.t 5) false T138 138] [(.exit 2,[.row (.t 4) false T80 80])] (by kernel_rfl)
def qqH(n:Nat):Ct Tryz.prog:=mkC tab (qib n) [qqc n,qqd n] Tryz.func43 [.d T72,.d T70] [T27] (by kernel_rfl)
noncomputable def qrB(n:Nat):CL Tryz.prog:=⟨[qyT n,qsy n,qtV n,qqH n],[],0,nof⟩
def qw5(n:Nat):LK Tryz.prog false:=mkL tab (qrB n) [] Tryz.f16 [true,true,true,true,false,true,false,false] 0 n [.v (.t 4) T72,.v (.t 20) T75,.v (.t 21) T3,.v (.t 22) T3,.row (.t 6) false T80 80] [(.exit 0,[.row (.t 6) false T80 80])] (by kernel_rfl)
def qxJ(n:Nat):Ct Tryz.prog:=mkC tab (qrB n) [qw5 n] Tryz.func16 [.d T22] [T27,T24] (by kernel_rfl)
noncomputable def qw6(n:Nat):CL Tryz.prog:=⟨[qxJ n],[],0,nof⟩
def qsz(n:Nat):Ct Tryz.prog:=mkC tab (qw6 n) [] Tryz.func14 [.d T22] [T3,T24] (by kernel_rfl)
end
noncomputable section
end
noncomputable section
noncomputable def qxK(n:Nat):CL Tryz.prog:=⟨[qd3 n,qoY n,qpL n],[],0,nof⟩
def qGr(n:Nat):Ct Tryz.prog:=mkC tab (qxK n) [] Tryz.func25 [.d T3,.d T22] [T22,T24] (by kernel_rfl)
noncomputable def qsA(n:Nat):CL Tryz.prog:=⟨[],[],0,nof⟩
def qA8(n:Nat):LK Tryz.prog false:=mkL tab (qsA n) [] Tryz.f95 [true,false,true,false,false] 0 n [.v (.t 1) T3,.v (.t 5) T3,.obj (.t 2) false 41 13,.v (.c 0 0) T41,.obj (.t 4) false 112 3,.v (.c 1 0) T112] [(.exit 0,[.v (.t 1) T3,.obj (.t 4) false 112 3,.v (.c 0 0) T112]),(.ret,[.obj (.t 4) false 112 3,.v (.c 0 0) T112])] (by kernel_rfl)
noncomputable def ql4(n:Nat):CL Tryz.prog:=⟨[],[],0,nof⟩
def qqI(n:Nat):LK Tryz.prog false:=mkL tab (ql4 n) [] Tryz.f27 [true,true,false,true,false,false] 0 n [.v (.t 0) T22,.v (.t 1) T22,.v (.t 5) T3] [(.exit 0,[]),(.ret,[.v (.t 4) T4])] (by kernel_rfl)
def qmy(n:Nat):Ct Tryz.prog:=mkC tab (ql4 n) [qqI n] Tryz.func27 [.d T22,.d T22] [T4] (by kernel_rfl)
noncomputable def qsB(n:Nat):CL Tryz.prog:=⟨[qsz n,qtK n,qmy n,qnb n,qmR n],[],0,nof⟩
def qn7(n:Nat):Ct Tryz.prog:=mkC tab (qsB n) [] Tryz.func13 [] [T4] (by kernel_rfl)
noncomputable def qsC(n:Nat):CL Tryz.prog:=⟨[qpt n,qn4 n],[],0,nof⟩
def qn8(n:Nat):Ct Tryz.prog:=mkC tab (qsC n) [] Tryz.func23 [.d T41] [T4] (by kernel_rfl)
noncomputable def qfY(n:Nat):CL Tryz.prog:=⟨[qn7 n,qn8 n,qtJ n,qnb n,qn1 n,qsl n],[],0,nof⟩
def qlz(n:Nat):LK Tryz.prog false:=mkL tab (qfY n) [] Tryz.f12 [true,true,true,true,true,true,true,false,true,false,false] 0 n [.v (.t 3) T22,.v (.t 5) T22,.v (.t 7) T22,.v (.t 9) T3,.v (.t 10) T3,.v (.t 11) T3,.v (.t 12) T3,.obj (.t 1) false 41 13,.v (.c 0 0) T41] [(.exit 0,[.v (.t 3) T22,.v (.t 5) T22,.v (.t 7) T22,.v (.t 9) T3,.v (.t 10) T3,.v (.t 11) T3,.obj (.t 1) false 41 13,.v (.c 0 0) T41])] (by kernel_rfl)
def qlA(n:Nat):LK Tryz.prog false:=mkL tab (qfY n) [] Tryz.f12 [true,true,true,true,true,true,true,true,false,true,false,false] 1 n [.v (.t 3) T22,.v (.t 5) T22,.v (.t 7) T22,.v (.t 9) T3,.v (.t 10) T3,.v (.t 11) T3,.v (.t 13) T3,.obj (.t 1) false 41 13,.v (.c 0 0) T41] [(.exit 2,[.v (.t 3) T22,.v (.t 7) T22,.v (.t 9) T3,.v (.t 10) T3,.v (.t 11) T3,.obj (.t 1) false 41 13,.v (.c 0 0) T41]),(.ret,[.v (.t 2) T4])] (by kernel_rfl)
def qlB(n:Nat):LK Tryz.prog false:=mkL tab (qfY n) [] Tryz.f12 [true,true,true,true,true,true,true,true,true,false,true,false,false] 2 n [.v (.t 3) T22,.v (.t 7) T22,.v (.t 9) T3,.v (.t 10) T3,.v (.t 11) T3,.v (.t 17) T3,.obj (.t 1) false 41 13,.v (.c 0 0) T41] [(.exit 4,[.v (.t 3) T22,.v (.t 9) T3,.v (.t 10) T3,.v (.t 11) T3,.obj (.t 1) false 41 13,.v (.c 0 0) T41]),(.ret,[.v (.t 2) T4])] (by kernel_rfl)
def qeJ(n:Nat):Ct Tryz.prog:=mkC tab (qfY n) [qlz n,qlA n,qlB n] Tryz.func12 [.d T41] [T4] (by kernel_rfl)
end
end Go.Proofs.YtlmicgmhallkkaaGreatDoor
