/- Texts DnN, DnO, DnQ, Dnz, DnV, DnW, DnX, DnY, DnL, DnZ in one. -/
import Derived.Test.YtlmicgmhallkkaaGreatDoorNe
import Derived.Test.YtlmicgmhallkkaaGreatDoorNd
import Derived.Test.YtlmicgmhallkkaaGreatDoorKa
import Derived.Test.YtlmicgmhallkkaaGreatDoorTy
/- Printed: what functions of the program compute. -/
set_option linter.constructorNameAsVariable false
set_option linter.unusedSimpArgs false
set_option linter.unusedVariables false
set_option linter.unusedSectionVars false
namespace Go.Proofs.YtlmicgmhallkkaaGreatDoor
open Go Go.Proofs Go.RowKit
set_option maxRecDepth 20000
noncomputable section
noncomputable def qxK(n:Nat):CL Tryz.prog:=⟨[],[],0,nof⟩
def qej(n:Nat):Ct Tryz.prog:=mkC tab (qxK n) [] Tryz.func47 [.d T3,.d T3,.d T3] [T4] (by kernel_rfl)
noncomputable def qwN(n:Nat):CL Tryz.prog:=⟨[qej n],[],0,nof⟩
def qhH(n:Nat):Ct Tryz.prog:=mkC tab (qwN n) [] Tryz.func73 [.d T3] [T4] (by kernel_rfl)
noncomputable def qAB(n:Nat):CL Tryz.prog:=⟨[qej n],[],0,nof⟩
def qly(n:Nat):Ct Tryz.prog:=mkC tab (qAB n) [] Tryz.func68 [.d T3] [T4] (by kernel_rfl)
noncomputable def qmJ(n:Nat):CL Tryz.prog:=⟨[qhH n],[],0,nof⟩
def qdi(n:Nat):Cw Tryz.prog:=mkW tab (qmJ n) [] Tryz.func104 [.v (.t 0) T3,.obj (.t 1) true 98 1,.fnc (.c 0 0) 73 []] 2 [[.v (.t 0) T4,.obj (.t 1) true 98 1,.fnc (.c 0 0) 73 []]] (by kernel_rfl)
noncomputable def qdq(n:Nat):CL Tryz.prog:=⟨[qhH n],[qdi n],0,nof⟩
def qdr(n:Nat):LK Tryz.prog false:=mkL tab (qdq n) [] Tryz.f142 [true,false,true,false,false] 0 n [.v (.t 0) T22,.v (.t 7) T3,.v (.t 8) T3,.fnc (.t 1) 104 [.box true 98 1],.fnc (.c 0 0) 73 []] [(.exit 0,[.fnc (.t 1) 104 [.box true 98 1],.fnc (.c 0 0) 73 []]),(.ret,[.v (.t 4) T3,.fnc (.t 1) 104 [.box true 98 1],.fnc (.c 0 0) 73 []])] (by kernel_rfl)
def qdJ(n:Nat):Cw Tryz.prog:=mkW tab (qdq n) [qdr n] Tryz.func142 [.v (.t 0) T22,.fnc (.t 1) 104 [.box true 98 1],.fnc (.c 0 0) 73 []] 2 [[.v (.t 0) T3,.obj (.t 1) true 98 1,.fnc (.c 0 0) 73 []]] (by kernel_rfl)
noncomputable def qgw(n:Nat):CL Tryz.prog:=⟨[qhH n],[qdi n,qdJ n],0,nof⟩
def qc5(n:Nat):Cw Tryz.prog:=mkW tab (qgw n) [] Tryz.func103 [.v (.t 0) T22,.fnc (.t 1) 104 [.box true 98 1],.fnc (.c 0 0) 73 []] 2 [[.v (.t 0) T4,.obj (.t 1) true 98 1,.fnc (.c 0 0) 73 []]] (by kernel_rfl)
noncomputable def qm7(n:Nat):CL Tryz.prog:=⟨[qhH n],[qc5 n],0,nof⟩
def qiE(n:Nat):Cw Tryz.prog:=mkW tab (qm7 n) [] Tryz.func67 [.v (.t 0) T22,.fn (.t 1) 73 [] []] 2 [[.v (.t 0) T4]] (by kernel_rfl)
noncomputable def qn7(n:Nat):CL Tryz.prog:=⟨[qly n],[],0,nof⟩
def qgm(n:Nat):Cw Tryz.prog:=mkW tab (qn7 n) [] Tryz.func104 [.v (.t 0) T3,.obj (.t 1) true 98 1,.fnc (.c 0 0) 68 []] 2 [[.v (.t 0) T4,.obj (.t 1) true 98 1,.fnc (.c 0 0) 68 []]] (by kernel_rfl)
noncomputable def qeb(n:Nat):CL Tryz.prog:=⟨[qly n],[qgm n],0,nof⟩
def qec(n:Nat):LK Tryz.prog false:=mkL tab (qeb n) [] Tryz.f142 [true,false,true,false,false] 0 n [.v (.t 0) T22,.v (.t 7) T3,.v (.t 8) T3,.fnc (.t 1) 104 [.box true 98 1],.fnc (.c 0 0) 68 []] [(.exit 0,[.fnc (.t 1) 104 [.box true 98 1],.fnc (.c 0 0) 68 []]),(.ret,[.v (.t 4) T3,.fnc (.t 1) 104 [.box true 98 1],.fnc (.c 0 0) 68 []])] (by kernel_rfl)
def qel(n:Nat):Cw Tryz.prog:=mkW tab (qeb n) [qec n] Tryz.func142 [.v (.t 0) T22,.fnc (.t 1) 104 [.box true 98 1],.fnc (.c 0 0) 68 []] 2 [[.v (.t 0) T3,.obj (.t 1) true 98 1,.fnc (.c 0 0) 68 []]] (by kernel_rfl)
noncomputable def qhc(n:Nat):CL Tryz.prog:=⟨[qly n],[qdi n,qgm n,qel n],0,nof⟩
def qdR(n:Nat):Cw Tryz.prog:=mkW tab (qhc n) [] Tryz.func103 [.v (.t 0) T22,.fnc (.t 1) 104 [.box true 98 1],.fnc (.c 0 0) 68 []] 2 [[.v (.t 0) T4,.obj (.t 1) true 98 1,.fnc (.c 0 0) 68 []]] (by kernel_rfl)
noncomputable def qoW(n:Nat):CL Tryz.prog:=⟨[qly n],[qdR n],0,nof⟩
def qku(n:Nat):Cw Tryz.prog:=mkW tab (qoW n) [] Tryz.func67 [.v (.t 0) T22,.fn (.t 1) 68 [] []] 2 [[.v (.t 0) T4]] (by kernel_rfl)
noncomputable def qsc(n:Nat):CL Tryz.prog:=⟨[],[qiE n],0,nof⟩
def qsd(n:Nat):LK Tryz.prog false:=mkL tab (qsc n) [] Tryz.f55 [true,true,false,true,false,false] 0 n [.v (.t 0) T22,.v (.t 3) T3,.v (.t 6) T22,.v (.t 7) T3,.v (.t 8) T3] [(.exit 0,[.v (.t 0) T22,.v (.t 3) T3])] (by kernel_rfl)
def qpw(n:Nat):Ct Tryz.prog:=mkC tab (qsc n) [qsd n] Tryz.func55 [.d T22] [T4] (by kernel_rfl)
noncomputable def qvZ(n:Nat):CL Tryz.prog:=⟨[qej n],[],0,nof⟩
def qcE(n:Nat):Cw Tryz.prog:=mkW tab (qvZ n) [] Tryz.func62 [.v (.t 0) T3,.obj (.t 1) true 41 13,.v (.c 0 0) T41] 2 [[.v (.t 0) T4,.obj (.t 1) true 41 13,.v (.c 0 0) T41]] (by kernel_rfl)
noncomputable def qv0(n:Nat):CL Tryz.prog:=⟨[qpw n],[],0,nof⟩
def qiF(n:Nat):Cw Tryz.prog:=mkW tab (qv0 n) [] Tryz.func63 [.v (.t 0) T22,.obj (.t 1) true 41 13,.v (.c 0 0) T41] 2 [[.v (.t 0) T4,.obj (.t 1) true 41 13,.v (.c 0 0) T41]] (by kernel_rfl)
noncomputable def qv1(n:Nat):CL Tryz.prog:=⟨[qej n],[],0,nof⟩
def qiG(n:Nat):Cw Tryz.prog:=mkW tab (qv1 n) [] Tryz.func64 [.v (.t 0) T112,.obj (.t 1) true 110 1,.mpi (.c 0 0) true T3 T3,.obj (.t 2) true 41 13,.v (.c 2 0) T41] 3 [[.v (.t 0) T4,.obj (.t 1) true 110 1,.mpi (.c 0 0) true T3 T3,.obj (.t 3) true 41 13,.v (.c 2 0) T41]] (by kernel_rfl)
noncomputable def qn8(n:Nat):CL Tryz.prog:=⟨[],[qcE n],0,nof⟩
def qcS(n:Nat):Cw Tryz.prog:=mkW tab (qn8 n) [] Tryz.func65 [.v (.t 0) T64,.obj (.t 1) true 98 1,.fnc (.c 0 0) 62 [.box true 41 13],.v (.c 1 0) T41] 2 [[.v (.t 0) T4,.obj (.t 1) true 98 1,.fnc (.c 0 0) 62 [.box true 41 13],.v (.c 1 0) T41]] (by kernel_rfl)
noncomputable def qn9(n:Nat):CL Tryz.prog:=⟨[qej n],[qcE n],0,nof⟩
def qcT(n:Nat):Cw Tryz.prog:=mkW tab (qn9 n) [] Tryz.func66 [.v (.t 0) T108,.obj (.t 1) true 98 1,.obj (.t 2) true 41 13,.v (.c 1 0) T41,.fnc (.c 0 0) 62 [.al 1]] 3 [[.v (.t 0) T4,.obj (.t 1) true 98 1,.obj (.t 2) true 41 13,.v (.c 1 0) T41,.fnc (.c 0 0) 62 [.al 1]]] (by kernel_rfl)
noncomputable def qmK(n:Nat):CL Tryz.prog:=⟨[],[qiF n],0,nof⟩
def qff(n:Nat):Cw Tryz.prog:=mkW tab (qmK n) [] Tryz.func106 [.v (.t 0) T22,.obj (.t 1) true 31 1,.fnc (.c 0 0) 63 [.box true 41 13],.v (.c 1 0) T41] 2 [[.v (.t 0) T4,.obj (.t 1) true 31 1,.fnc (.c 0 0) 63 [.box true 41 13],.v (.c 1 0) T41]] (by kernel_rfl)
noncomputable def qds(n:Nat):CL Tryz.prog:=⟨[],[qiF n,qff n],0,nof⟩
def qdt(n:Nat):LK Tryz.prog false:=mkL tab (qds n) [] Tryz.f143 [true,false,true,false,false] 0 n [.v (.t 0) T36,.v (.t 7) T3,.v (.t 8) T3,.fnc (.t 1) 106 [.box true 31 1],.fnc (.c 0 0) 63 [.box true 41 13],.v (.c 1 0) T41] [(.exit 0,[.fnc (.t 1) 106 [.box true 31 1],.fnc (.c 0 0) 63 [.box true 41 13],.v (.c 1 0) T41]),(.ret,[.v (.t 4) T3,.fnc (.t 1) 106 [.box true 31 1],.fnc (.c 0 0) 63 [.box true 41 13],.v (.c 1 0) T41])] (by kernel_rfl)
def qdK(n:Nat):Cw Tryz.prog:=mkW tab (qds n) [qdt n] Tryz.func143 [.v (.t 0) T36,.fnc (.t 1) 106 [.box true 31 1],.fnc (.c 0 0) 63 [.box true 41 13],.v (.c 1 0) T41] 2 [[.v (.t 0) T3,.obj (.t 1) true 31 1,.fnc (.c 0 0) 63 [.box true 41 13],.v (.c 1 0) T41]] (by kernel_rfl)
noncomputable def qgx(n:Nat):CL Tryz.prog:=⟨[],[qiF n,qff n,qdK n],0,nof⟩
def qc6(n:Nat):Cw Tryz.prog:=mkW tab (qgx n) [] Tryz.func105 [.v (.t 0) T36,.fnc (.t 1) 106 [.box true 31 1],.fnc (.c 0 0) 63 [.box true 41 13],.v (.c 1 0) T41] 2 [[.v (.t 0) T4,.obj (.t 1) true 31 1,.fnc (.c 0 0) 63 [.box true 41 13],.v (.c 1 0) T41]] (by kernel_rfl)
noncomputable def qm8(n:Nat):CL Tryz.prog:=⟨[],[qiF n,qc6 n],0,nof⟩
def qiH(n:Nat):Cw Tryz.prog:=mkW tab (qm8 n) [] Tryz.func69 [.v (.t 0) T36,.fnc (.t 1) 63 [.box true 41 13],.v (.c 0 0) T41] 2 [[.v (.t 0) T4,.obj (.t 1) true 41 13,.v (.c 0 0) T41]] (by kernel_rfl)
noncomputable def qkX(n:Nat):CL Tryz.prog:=⟨[],[qiG n],0,nof⟩
def qed(n:Nat):Cw Tryz.prog:=mkW tab (qkX n) [] Tryz.func108 [.v (.t 0) T112,.obj (.t 1) true 113 1,.fnc (.c 0 0) 64 [.box true 110 1,.box true 41 13],.mpi (.c 1 0) true T3 T3,.v (.c 2 0) T41] 2 [[.v (.t 0) T4,.obj (.t 1) true 113 1,.fnc (.c 0 0) 64 [.box true 110 1,.box true 41 13],.mpi (.c 1 0) true T3 T3,.v (.c 2 0) T41]] (by kernel_rfl)
noncomputable def qcq(n:Nat):CL Tryz.prog:=⟨[],[qiG n,qed n],0,nof⟩
def qcr(n:Nat):LK Tryz.prog false:=mkL tab (qcq n) [] Tryz.f144 [true,false,true,false,false] 0 n [.v (.t 0) T37,.v (.t 7) T3,.v (.t 8) T3,.fnc (.t 1) 108 [.box true 113 1],.fnc (.c 0 0) 64 [.box true 110 1,.box true 41 13],.mpi (.c 1 0) true T3 T3,.v (.c 2 0) T41] [(.exit 0,[.fnc (.t 1) 108 [.box true 113 1],.fnc (.c 0 0) 64 [.box true 110 1,.box true 41 13],.mpi (.c 1 0) true T3 T3,.v (.c 2 0) T41]),(.ret,[.v (.t 4) T3,.fnc (.t 1) 108 [.box true 113 1],.fnc (.c 0 0) 64 [.box true 110 1,.box true 41 13],.mpi (.c 1 0) true T3 T3,.v (.c 2 0) T41])] (by kernel_rfl)
def qcA(n:Nat):Cw Tryz.prog:=mkW tab (qcq n) [qcr n] Tryz.func144 [.v (.t 0) T37,.fnc (.t 1) 108 [.box true 113 1],.fnc (.c 0 0) 64 [.box true 110 1,.box true 41 13],.mpi (.c 1 0) true T3 T3,.v (.c 2 0) T41] 2 [[.v (.t 0) T3,.obj (.t 1) true 113 1,.fnc (.c 0 0) 64 [.box true 110 1,.box true 41 13],.mpi (.c 1 0) true T3 T3,.v (.c 2 0) T41]] (by kernel_rfl)
noncomputable def qfb(n:Nat):CL Tryz.prog:=⟨[],[qiG n,qed n,qcA n],0,nof⟩
def qch(n:Nat):Cw Tryz.prog:=mkW tab (qfb n) [] Tryz.func107 [.v (.t 0) T37,.fnc (.t 1) 108 [.box true 113 1],.fnc (.c 0 0) 64 [.box true 110 1,.box true 41 13],.mpi (.c 1 0) true T3 T3,.v (.c 2 0) T41] 2 [[.v (.t 0) T4,.obj (.t 1) true 113 1,.fnc (.c 0 0) 64 [.box true 110 1,.box true 41 13],.mpi (.c 1 0) true T3 T3,.v (.c 2 0) T41]] (by kernel_rfl)
noncomputable def qlA(n:Nat):CL Tryz.prog:=⟨[],[qiG n,qch n],0,nof⟩
def qhb(n:Nat):Cw Tryz.prog:=mkW tab (qlA n) [] Tryz.func70 [.v (.t 0) T37,.fnc (.t 1) 64 [.box true 110 1,.box true 41 13],.mpi (.c 0 0) true T3 T3,.v (.c 1 0) T41] 2 [[.v (.t 0) T4,.obj (.t 1) true 110 1,.obj (.t 2) true 41 13,.mpi (.c 0 0) true T3 T3,.v (.c 1 0) T41]] (by kernel_rfl)
noncomputable def qhq(n:Nat):CL Tryz.prog:=⟨[],[qcE n,qcS n],0,nof⟩
def qb1(n:Nat):Cw Tryz.prog:=mkW tab (qhq n) [] Tryz.func110 [.v (.t 0) T64,.obj (.t 1) true 114 1,.fnc (.c 0 0) 65 [.box true 98 1],.fnc (.c 1 0) 62 [.box true 41 13],.v (.c 2 0) T41] 2 [[.v (.t 0) T4,.obj (.t 1) true 114 1,.fnc (.c 0 0) 65 [.box true 98 1],.fnc (.c 1 0) 62 [.box true 41 13],.v (.c 2 0) T41]] (by kernel_rfl)
noncomputable def qbq(n:Nat):CL Tryz.prog:=⟨[],[qcE n,qcS n,qb1 n],0,nof⟩
def qbr(n:Nat):LK Tryz.prog false:=mkL tab (qbq n) [] Tryz.f145 [true,false,true,false,false] 0 n [.v (.t 0) T38,.v (.t 7) T3,.v (.t 8) T3,.fnc (.t 1) 110 [.box true 114 1],.fnc (.c 0 0) 65 [.box true 98 1],.fnc (.c 1 0) 62 [.box true 41 13],.v (.c 2 0) T41] [(.exit 0,[.fnc (.t 1) 110 [.box true 114 1],.fnc (.c 0 0) 65 [.box true 98 1],.fnc (.c 1 0) 62 [.box true 41 13],.v (.c 2 0) T41]),(.ret,[.v (.t 4) T3,.fnc (.t 1) 110 [.box true 114 1],.fnc (.c 0 0) 65 [.box true 98 1],.fnc (.c 1 0) 62 [.box true 41 13],.v (.c 2 0) T41])] (by kernel_rfl)
def qO(n:Nat):Cw Tryz.prog:=mkW tab (qbq n) [qbr n] Tryz.func145 [.v (.t 0) T38,.fnc (.t 1) 110 [.box true 114 1],.fnc (.c 0 0) 65 [.box true 98 1],.fnc (.c 1 0) 62 [.box true 41 13],.v (.c 2 0) T41] 2 [[.v (.t 0) T3,.obj (.t 1) true 114 1,.fnc (.c 0 0) 65 [.box true 98 1],.fnc (.c 1 0) 62 [.box true 41 13],.v (.c 2 0) T41]] (by kernel_rfl)
noncomputable def qdB(n:Nat):CL Tryz.prog:=⟨[],[qcE n,qcS n,qb1 n,qO n],0,nof⟩
def qM(n:Nat):Cw Tryz.prog:=mkW tab (qdB n) [] Tryz.func109 [.v (.t 0) T38,.fnc (.t 1) 110 [.box true 114 1],.fnc (.c 0 0) 65 [.box true 98 1],.fnc (.c 1 0) 62 [.box true 41 13],.v (.c 2 0) T41] 2 [[.v (.t 0) T4,.obj (.t 1) true 114 1,.fnc (.c 0 0) 65 [.box true 98 1],.fnc (.c 1 0) 62 [.box true 41 13],.v (.c 2 0) T41]] (by kernel_rfl)
noncomputable def qhR(n:Nat):CL Tryz.prog:=⟨[],[qcE n,qcS n,qM n],0,nof⟩
def qem(n:Nat):Cw Tryz.prog:=mkW tab (qhR n) [] Tryz.func71 [.v (.t 0) T38,.fnc (.t 1) 65 [.box true 98 1],.fnc (.c 0 0) 62 [.box true 41 13],.v (.c 1 0) T41] 2 [[.v (.t 0) T4,.obj (.t 1) true 98 1,.fnc (.c 0 0) 62 [.box true 41 13],.v (.c 1 0) T41]] (by kernel_rfl)
noncomputable def qhv(n:Nat):CL Tryz.prog:=⟨[],[qcE n,qcT n],0,nof⟩
def qcd(n:Nat):Cw Tryz.prog:=mkW tab (qhv n) [] Tryz.func112 [.v (.t 0) T108,.obj (.t 1) true 115 1,.fnc (.c 0 0) 66 [.box true 98 1,.box true 41 13],.fnc (.c 1 0) 62 [.al 2],.v (.c 2 0) T41] 2 [[.v (.t 0) T4,.obj (.t 1) true 115 1,.fnc (.c 0 0) 66 [.box true 98 1,.box true 41 13],.fnc (.c 1 0) 62 [.al 2],.v (.c 2 0) T41]] (by kernel_rfl)
noncomputable def qbE(n:Nat):CL Tryz.prog:=⟨[],[qcE n,qcT n,qcd n],0,nof⟩
def qbF(n:Nat):LK Tryz.prog false:=mkL tab (qbE n) [] Tryz.f146 [true,false,true,false,false] 0 n [.v (.t 0) T39,.v (.t 7) T3,.v (.t 8) T3,.fnc (.t 1) 112 [.box true 115 1],.fnc (.c 0 0) 66 [.box true 98 1,.box true 41 13],.fnc (.c 1 0) 62 [.al 2],.v (.c 2 0) T41] [(.exit 0,[.fnc (.t 1) 112 [.box true 115 1],.fnc (.c 0 0) 66 [.box true 98 1,.box true 41 13],.fnc (.c 1 0) 62 [.al 2],.v (.c 2 0) T41]),(.ret,[.v (.t 4) T3,.fnc (.t 1) 112 [.box true 115 1],.fnc (.c 0 0) 66 [.box true 98 1,.box true 41 13],.fnc (.c 1 0) 62 [.al 2],.v (.c 2 0) T41])] (by kernel_rfl)
def qbH(n:Nat):Cw Tryz.prog:=mkW tab (qbE n) [qbF n] Tryz.func146 [.v (.t 0) T39,.fnc (.t 1) 112 [.box true 115 1],.fnc (.c 0 0) 66 [.box true 98 1,.box true 41 13],.fnc (.c 1 0) 62 [.al 2],.v (.c 2 0) T41] 2 [[.v (.t 0) T3,.obj (.t 1) true 115 1,.fnc (.c 0 0) 66 [.box true 98 1,.box true 41 13],.fnc (.c 1 0) 62 [.al 2],.v (.c 2 0) T41]] (by kernel_rfl)
noncomputable def qdS(n:Nat):CL Tryz.prog:=⟨[],[qcE n,qcT n,qcd n,qbH n],0,nof⟩
def qbs(n:Nat):Cw Tryz.prog:=mkW tab (qdS n) [] Tryz.func111 [.v (.t 0) T39,.fnc (.t 1) 112 [.box true 115 1],.fnc (.c 0 0) 66 [.box true 98 1,.box true 41 13],.fnc (.c 1 0) 62 [.al 2],.v (.c 2 0) T41] 2 [[.v (.t 0) T4,.obj (.t 1) true 115 1,.fnc (.c 0 0) 66 [.box true 98 1,.box true 41 13],.fnc (.c 1 0) 62 [.al 2],.v (.c 2 0) T41]] (by kernel_rfl)
noncomputable def qh0(n:Nat):CL Tryz.prog:=⟨[],[qcE n,qcT n,qbs n],0,nof⟩
def qer(n:Nat):Cw Tryz.prog:=mkW tab (qh0 n) [] Tryz.func72 [.v (.t 0) T39,.fnc (.t 1) 66 [.box true 98 1,.box true 41 13],.fnc (.c 0 0) 62 [.al 1],.v (.c 1 0) T41] 2 [[.v (.t 0) T4,.obj (.t 1) true 98 1,.obj (.t 2) true 41 13,.fnc (.c 0 0) 62 [.al 1],.v (.c 1 0) T41]] (by kernel_rfl)
noncomputable def qyk(n:Nat):CL Tryz.prog:=⟨[qej n,qri n,qly n,qhH n],[qku n,qiH n,qhb n,qem n,qer n],0,nof⟩
def qup(n:Nat):Ct Tryz.prog:=mkC tab (qyk n) [] Tryz.func33 [.d T41] [T24] (by kernel_rfl)
noncomputable def qwO(n:Nat):CL Tryz.prog:=⟨[],[],0,nof⟩
def qse(n:Nat):Cw Tryz.prog:=mkW tab (qwO n) [] Tryz.func89 [.v (.t 0) T91,.obj (.t 1) true 3 1,.v (.c 0 0) T3] 2 [[.v (.t 0) T4,.obj (.t 1) true 3 1,.v (.c 0 0) T3]] (by kernel_rfl)
noncomputable def qfy(n:Nat):CL Tryz.prog:=⟨[],[qse n],0,nof⟩
def qfz(n:Nat):LK Tryz.prog false:=mkL tab (qfy n) [] Tryz.f58 [true,false,true,false,false] 0 n [.v (.t 0) T35,.v (.t 7) T3,.v (.t 8) T3,.fnc (.t 1) 89 [.box true 3 1],.v (.c 0 0) T3] [(.exit 0,[.fnc (.t 1) 89 [.box true 3 1],.v (.c 0 0) T3]),(.ret,[.v (.t 4) T3,.fnc (.t 1) 89 [.box true 3 1],.v (.c 0 0) T3])] (by kernel_rfl)
def qda(n:Nat):Cw Tryz.prog:=mkW tab (qfy n) [qfz n] Tryz.func58 [.v (.t 0) T35,.fnc (.t 1) 89 [.box true 3 1],.v (.c 0 0) T3] 2 [[.v (.t 0) T3,.obj (.t 1) true 3 1,.v (.c 0 0) T3]] (by kernel_rfl)
noncomputable def qs1(n:Nat):CL Tryz.prog:=⟨[qup n,qsb n],[qX n,qQ n,qbd n,qda n],0,nof⟩
def qs2(n:Nat):LK Tryz.prog false:=mkL tab (qs1 n) [] Tryz.f46 [true,true,true,true,false,true,false,false] 0 n [.v (.t 27) T22,.v (.t 28) T3,.v (.t 29) T3,.obj (.t 1) false 41 13,.v (.c 0 0) T41,.obj (.t 5) false 88 14,.v (.c 1 0) T41,.row (.c 1 13) false T91 91] [(.exit 0,[.obj (.t 5) false 88 14,.v (.c 0 0) T41,.row (.c 0 13) false T91 91])] (by kernel_rfl)
def qnq(n:Nat):Cw Tryz.prog:=mkW tab (qs1 n) [qs2 n] Tryz.func46 [.v (.t 0) T41] 1 [[.v (.t 1) T24,.obj (.t 0) false 88 14,.v (.c 0 0) T41,.row (.c 0 13) false T91 91],[.nilp (.t 0),.v (.t 1) T24]] (by kernel_rfl)
noncomputable def qm9(n:Nat):CL Tryz.prog:=⟨[],[],0,nof⟩
def qna(n:Nat):LK Tryz.prog false:=mkL tab (qm9 n) [] Tryz.f90 [true,false,true,false,false] 0 n [.v (.t 1) T3,.v (.t 11) T37,.v (.t 12) T3,.v (.t 13) T3,.obj (.t 0) true 88 14,.v (.c 0 0) T88,.obj (.t 4) false 112 3,.v (.c 1 0) T112] [(.exit 0,[.v (.t 1) T3,.obj (.t 0) true 88 14,.v (.c 0 0) T88,.obj (.t 4) false 112 3,.v (.c 1 0) T112]),(.ret,[.obj (.t 0) true 88 14,.v (.c 0 0) T88,.obj (.t 4) false 112 3,.v (.c 1 0) T112])] (by kernel_rfl)
def qnT(n:Nat):Cw Tryz.prog:=mkW tab (qm9 n) [qna n] Tryz.func90 [.v (.t 1) T3,.obj (.t 0) true 88 14,.v (.c 0 0) T88] 2 [[.v (.t 0) T112,.obj (.t 1) true 88 14,.v (.c 0 0) T88]] (by kernel_rfl)
noncomputable def qs3(n:Nat):CL Tryz.prog:=⟨[],[],0,nof⟩
def qkY(n:Nat):Cw Tryz.prog:=mkW tab (qs3 n) [] Tryz.func128 [.v (.t 1) T3,.v (.t 2) T3,.obj (.t 0) true 88 14,.v (.c 0 0) T88] 3 [[.v (.t 0) T4,.obj (.t 1) true 88 14,.v (.c 0 0) T88]] (by kernel_rfl)
noncomputable def qp0(n:Nat):CL Tryz.prog:=⟨[],[qkY n],0,nof⟩
def qfE(n:Nat):Cw Tryz.prog:=mkW tab (qp0 n) [] Tryz.func129 [.v (.t 0) T64,.obj (.t 1) true 3 1,.v (.c 0 0) T3,.obj (.t 2) true 83 1,.obj (.c 1 0) true 88 14,.v (.c 2 0) T88,.obj (.t 3) true 3 1,.v (.c 3 0) T3] 4 [[.v (.t 0) T4,.obj (.t 1) true 3 1,.v (.c 0 0) T3,.obj (.t 2) true 83 1,.obj (.c 1 0) true 88 14,.v (.c 2 0) T88,.obj (.t 4) true 3 1,.v (.c 3 0) T3]] (by kernel_rfl)
noncomputable def qd4(n:Nat):CL Tryz.prog:=⟨[],[qfE n],0,nof⟩
def qd5(n:Nat):LK Tryz.prog false:=mkL tab (qd4 n) [] Tryz.f145 [true,false,true,false,false] 0 n [.v (.t 0) T38,.v (.t 7) T3,.v (.t 8) T3,.fnc (.t 1) 129 [.box true 3 1,.box true 83 1,.box true 3 1],.v (.c 0 0) T3,.obj (.c 1 0) true 88 14,.v (.c 3 0) T88,.v (.c 2 0) T3] [(.exit 0,[.fnc (.t 1) 129 [.box true 3 1,.box true 83 1,.box true 3 1],.v (.c 0 0) T3,.obj (.c 1 0) true 88 14,.v (.c 3 0) T88,.v (.c 2 0) T3]),(.ret,[.v (.t 4) T3,.fnc (.t 1) 129 [.box true 3 1,.box true 83 1,.box true 3 1],.v (.c 0 0) T3,.obj (.c 1 0) true 88 14,.v (.c 3 0) T88,.v (.c 2 0) T3])] (by kernel_rfl)
def qee(n:Nat):Cw Tryz.prog:=mkW tab (qd4 n) [qd5 n] Tryz.func145 [.v (.t 0) T38,.fnc (.t 1) 129 [.box true 3 1,.box true 83 1,.box true 3 1],.v (.c 0 0) T3,.obj (.c 1 0) true 88 14,.v (.c 3 0) T88,.v (.c 2 0) T3] 2 [[.v (.t 0) T3,.obj (.t 1) true 3 1,.obj (.t 2) true 83 1,.obj (.t 3) true 3 1,.v (.c 0 0) T3,.obj (.c 1 0) true 88 14,.v (.c 3 0) T88,.v (.c 2 0) T3]] (by kernel_rfl)
noncomputable def qg5(n:Nat):CL Tryz.prog:=⟨[],[qfE n,qO n,qee n],0,nof⟩
def qdL(n:Nat):Cw Tryz.prog:=mkW tab (qg5 n) [] Tryz.func109 [.v (.t 0) T38,.fnc (.t 1) 129 [.box true 3 1,.box true 83 1,.box true 3 1],.v (.c 0 0) T3,.obj (.c 1 0) true 88 14,.v (.c 3 0) T88,.v (.c 2 0) T3] 2 [[.v (.t 0) T4,.obj (.t 1) true 3 1,.obj (.t 2) true 83 1,.obj (.t 3) true 3 1,.v (.c 0 0) T3,.obj (.c 1 0) true 88 14,.v (.c 3 0) T88,.v (.c 2 0) T3]] (by kernel_rfl)
noncomputable def qqS(n:Nat):CL Tryz.prog:=⟨[],[qM n,qdL n,qkY n],0,nof⟩
def qmh(n:Nat):Cw Tryz.prog:=mkW tab (qqS n) [] Tryz.func91 [.v (.t 1) T3,.v (.t 2) T3,.obj (.t 0) true 88 14,.v (.c 0 0) T88] 3 [[.v (.t 0) T4,.obj (.t 1) true 88 14,.v (.c 0 0) T88]] (by kernel_rfl)
noncomputable def qBj(n:Nat):CL Tryz.prog:=⟨[],[],0,nof⟩
def qt3(n:Nat):Ct Tryz.prog:=mkC tab (qBj n) [] Tryz.func92 [.d T3,.d T3] [T3] (by kernel_rfl)
noncomputable def qs4(n:Nat):CL Tryz.prog:=⟨[qt3 n],[qnT n,qmh n],0,nof⟩
def qkZ(n:Nat):Cw Tryz.prog:=mkW tab (qs4 n) [] Tryz.func50 [.v (.t 1) T91,.v (.t 2) T95,.obj (.t 0) true 88 14,.v (.c 0 0) T88] 3 [[.v (.t 0) T3,.v (.t 1) T3,.obj (.t 2) true 88 14,.v (.c 0 0) T88]] (by kernel_rfl)
noncomputable def qv2(n:Nat):CL Tryz.prog:=⟨[],[],0,nof⟩
def qrl(n:Nat):Cw Tryz.prog:=mkW tab (qv2 n) [] Tryz.func59 [.v (.t 0) T91,.obj (.t 1) true 3 1,.v (.c 0 0) T3] 2 [[.v (.t 0) T4,.obj (.t 1) true 3 1,.v (.c 0 0) T3]] (by kernel_rfl)
noncomputable def qfo(n:Nat):CL Tryz.prog:=⟨[],[qrl n],0,nof⟩
def qfp(n:Nat):LK Tryz.prog false:=mkL tab (qfo n) [] Tryz.f58 [true,false,true,false,false] 0 n [.v (.t 0) T35,.v (.t 7) T3,.v (.t 8) T3,.fnc (.t 1) 59 [.box true 3 1],.v (.c 0 0) T3] [(.exit 0,[.fnc (.t 1) 59 [.box true 3 1],.v (.c 0 0) T3]),(.ret,[.v (.t 4) T3,.fnc (.t 1) 59 [.box true 3 1],.v (.c 0 0) T3])] (by kernel_rfl)
def qfA(n:Nat):Cw Tryz.prog:=mkW tab (qfo n) [qfp n] Tryz.func58 [.v (.t 0) T35,.fnc (.t 1) 59 [.box true 3 1],.v (.c 0 0) T3] 2 [[.v (.t 0) T3,.obj (.t 1) true 3 1,.v (.c 0 0) T3]] (by kernel_rfl)
noncomputable def qs5(n:Nat):CL Tryz.prog:=⟨[],[qnq n,qkZ n,qX n,qQ n,qbd n,qda n,qfA n],2,nof⟩
def qs6(n:Nat):LK Tryz.prog false:=mkL tab (qs5 n) [] Tryz.f29 [true,true,true,true,true,false,true,false,false] 0 n [.v (.t 4) T3,.v (.t 5) T3,.v (.t 8) T3,.v (.t 36) T89,.v (.t 37) T3,.v (.t 38) T3,.obj (.t 7) false 88 14,.v (.c 0 0) T88] [(.exit 0,[.v (.t 4) T3,.v (.t 5) T3])] (by kernel_rfl)
def quq(n:Nat):Ct Tryz.prog:=mkC tab (qs5 n) [qs6 n] Tryz.func29 [.d T41,.d T3] [T3,T3,T24] (by kernel_rfl)
end
noncomputable section
noncomputable def qv3(n:Nat):CL Tryz.prog:=⟨[qgt n],[],0,nof⟩
def qk0(n:Nat):Cw Tryz.prog:=mkW tab (qv3 n) [] Tryz.func99 [.v (.t 0) T3,.v (.t 1) T3,.obj (.t 2) true 3 1,.v (.c 0 0) T3,.obj (.t 3) true 22 1,.v (.c 1 0) T22] 4 [[.v (.t 0) T3,.obj (.t 1) true 3 1,.v (.c 0 0) T3,.obj (.t 2) true 22 1,.v (.c 1 0) T22]] (by kernel_rfl)
noncomputable def qcx(n:Nat):CL Tryz.prog:=⟨[],[qk0 n],0,nof⟩
def qeF(n:Nat):LK Tryz.prog false:=mkL tab (qcx n) [] Tryz.f174 [true,false,false,true,false,false,true,false,false] 1 n [.v (.t 1) T3,.v (.t 2) T3,.v (.t 8) T3,.v (.t 9) T3,.row (.t 0) true T3 3,.fnc (.t 3) 99 [.box true 3 1,.box true 22 1],.v (.c 1 0) T3,.v (.c 2 0) T22] [(.exit 2,[.v (.t 1) T3,.v (.t 2) T3,.v (.t 8) T3,.row (.t 0) true T3 3,.fnc (.t 3) 99 [.box true 3 1,.box true 22 1],.v (.c 1 0) T3,.v (.c 2 0) T22])] (by kernel_rfl)
def qeG(n:Nat):LK Tryz.prog false:=mkL tab (qcx n) [qeF n] Tryz.f174 [true,false,false] 0 n [.v (.t 1) T3,.v (.t 2) T3,.v (.t 8) T3,.row (.t 0) true T3 3,.fnc (.t 3) 99 [.box true 3 1,.box true 22 1],.v (.c 1 0) T3,.v (.c 2 0) T22] [(.exit 0,[.row (.t 0) true T3 3,.fnc (.t 3) 99 [.box true 3 1,.box true 22 1],.v (.c 1 0) T3,.v (.c 2 0) T22])] (by kernel_rfl)
def qeW(n:Nat):Cw Tryz.prog:=mkW tab (qcx n) [qeG n] Tryz.func174 [.v (.t 1) T3,.v (.t 2) T3,.row (.t 0) true T3 3,.fnc (.t 3) 99 [.box true 3 1,.box true 22 1],.v (.c 1 0) T3,.v (.c 2 0) T22] 4 [[.row (.t 0) true T3 3,.obj (.t 1) true 3 1,.obj (.t 2) true 22 1,.v (.c 1 0) T3,.v (.c 2 0) T22]] (by kernel_rfl)
noncomputable def qb7(n:Nat):CL Tryz.prog:=⟨[],[qk0 n,qeW n],0,nof⟩
def qfU(n:Nat):LK Tryz.prog false:=mkL tab (qb7 n) [] Tryz.f132 [true,true,false,false,false] 0 n [.v (.t 1) T3,.v (.t 6) T3,.v (.t 7) T3,.v (.t 8) T3,.row (.t 0) true T3 3,.fnc (.t 2) 99 [.box true 3 1,.box true 22 1],.v (.c 1 0) T3,.v (.c 2 0) T22] [(.exit 0,[.v (.t 1) T3,.v (.t 6) T3,.v (.t 7) T3,.row (.t 0) true T3 3,.fnc (.t 2) 99 [.box true 3 1,.box true 22 1],.v (.c 1 0) T3,.v (.c 2 0) T22])] (by kernel_rfl)
def qfV(n:Nat):LK Tryz.prog false:=mkL tab (qb7 n) [] Tryz.f132 [true,true,true,true,false,false,true,false,true,false,false,false] 2 n [.v (.t 1) T3,.v (.t 6) T3,.v (.t 7) T3,.v (.t 8) T3,.row (.t 0) true T3 3,.fnc (.t 2) 99 [.box true 3 1,.box true 22 1],.v (.c 1 0) T3,.v (.c 2 0) T22] [(.exit 4,[.v (.t 1) T3,.v (.t 6) T3,.v (.t 7) T3,.row (.t 0) true T3 3,.fnc (.t 2) 99 [.box true 3 1,.box true 22 1],.v (.c 1 0) T3,.v (.c 2 0) T22])] (by kernel_rfl)
def qfW(n:Nat):LK Tryz.prog false:=mkL tab (qb7 n) [qfV n] Tryz.f132 [true,true,true,true,false,false] 1 n [.v (.t 1) T3,.v (.t 6) T3,.row (.t 0) true T3 3,.fnc (.t 2) 99 [.box true 3 1,.box true 22 1],.v (.c 1 0) T3,.v (.c 2 0) T22] [(.exit 2,[.row (.t 0) true T3 3,.fnc (.t 2) 99 [.box true 3 1,.box true 22 1],.v (.c 1 0) T3,.v (.c 2 0) T22])] (by kernel_rfl)
def qga(n:Nat):Cw Tryz.prog:=mkW tab (qb7 n) [qfU n,qfW n] Tryz.func132 [.v (.t 1) T3,.row (.t 0) true T3 3,.fnc (.t 2) 99 [.box true 3 1,.box true 22 1],.v (.c 1 0) T3,.v (.c 2 0) T22] 3 [[.row (.t 0) true T3 3,.obj (.t 1) true 3 1,.obj (.t 2) true 22 1,.v (.c 1 0) T3,.v (.c 2 0) T22]] (by kernel_rfl)
noncomputable def qkf(n:Nat):CL Tryz.prog:=⟨[],[qk0 n,qga n],0,nof⟩
def qfX(n:Nat):Cw Tryz.prog:=mkW tab (qkf n) [] Tryz.func98 [.row (.t 0) true T3 3,.fnc (.t 1) 99 [.box true 3 1,.box true 22 1],.v (.c 1 0) T3,.v (.c 2 0) T22] 2 [[.row (.t 0) true T3 3,.obj (.t 1) true 3 1,.obj (.t 2) true 22 1,.v (.c 1 0) T3,.v (.c 2 0) T22]] (by kernel_rfl)
noncomputable def qpx(n:Nat):CL Tryz.prog:=⟨[],[qfX n],0,nof⟩
def qs7(n:Nat):LK Tryz.prog false:=mkL tab (qpx n) [] Tryz.f56 [true,true,true,true,false,true,false,false] 0 n [.v (.t 7) T3,.v (.t 19) T22,.v (.t 20) T3,.v (.t 21) T3,.obj (.t 2) false 3 1,.v (.c 0 0) T3,.obj (.t 3) false 22 1,.v (.c 1 0) T22,.row (.t 5) false T3 3,.row (.t 6) false T3 3] [(.exit 0,[.v (.t 7) T3,.obj (.t 2) false 3 1,.v (.c 0 0) T3,.obj (.t 3) false 22 1,.v (.c 1 0) T22,.row (.t 5) false T3 3,.row (.t 6) false T3 3])] (by kernel_rfl)
def qs8(n:Nat):LK Tryz.prog false:=mkL tab (qpx n) [] Tryz.f56 [true,true,true,true,true,true,false,true,false,false] 1 n [.v (.t 50) T3,.v (.t 51) T3,.row (.t 5) false T3 3,.row (.t 6) false T3 3,.sub (.t 49) 1] [(.exit 2,[.row (.t 5) false T3 3])] (by kernel_rfl)
def qqo(n:Nat):Ct Tryz.prog:=mkC tab (qpx n) [qs7 n,qs8 n] Tryz.func56 [.d T3,.d T22] [T22] (by kernel_rfl)
noncomputable def qox(n:Nat):CL Tryz.prog:=⟨[qqo n],[],0,nof⟩
def qoy(n:Nat):LK Tryz.prog false:=mkL tab (qox n) [] Tryz.f60 [true,false,false] 0 n [.v (.t 2) T3,.v (.t 19) T22,.v (.t 20) T3,.v (.t 21) T3,.obj (.t 3) true 83 1,.obj (.c 0 0) true 88 14,.v (.c 1 0) T88,.obj (.t 4) true 22 1,.row (.c 2 0) true T3 3] [(.exit 0,[.obj (.t 3) true 83 1,.obj (.c 0 0) true 88 14,.v (.c 1 0) T88,.obj (.t 4) true 22 1,.row (.c 2 0) true T3 3])] (by kernel_rfl)
def qo6(n:Nat):Cw Tryz.prog:=mkW tab (qox n) [qoy n] Tryz.func60 [.v (.t 0) T3,.v (.t 1) T3,.v (.t 2) T3,.obj (.t 3) true 83 1,.obj (.c 0 0) true 88 14,.v (.c 1 0) T88,.obj (.t 4) true 22 1,.row (.c 2 0) true T3 3] 5 [[.obj (.t 0) true 83 1,.obj (.c 0 0) true 88 14,.v (.c 1 0) T88,.obj (.t 2) true 22 1,.row (.c 2 0) true T3 3]] (by kernel_rfl)
noncomputable def qki(n:Nat):CL Tryz.prog:=⟨[],[qnq n,qkZ n,qo6 n],2,nof⟩
def qqz(n:Nat):LK Tryz.prog false:=mkL tab (qki n) [] Tryz.f31 [true,true,true,true,true,true,false,true,false,false,true,true,false,false,true,true,false,false] 1 n [.v (.t 6) T3,.v (.t 7) T3,.v (.t 48) T35,.v (.t 49) T3,.v (.t 50) T3,.v (.t 55) T89,.v (.t 56) T3,.v (.t 57) T3,.obj (.t 4) false 83 1,.obj (.c 0 0) false 88 14,.v (.c 1 0) T88,.obj (.t 8) false 22 1,.row (.c 2 0) false T3 3,.obj (.t 11) false 91 5,.v (.c 4 0) T91,.fnc (.t 9) 60 [.al 0,.al 2]] [(.exit 2,[.v (.t 6) T3,.v (.t 7) T3,.v (.t 48) T35,.v (.t 49) T3,.v (.t 50) T3,.obj (.t 4) false 83 1,.obj (.c 0 0) false 88 14,.v (.c 1 0) T88,.obj (.t 8) false 22 1,.row (.c 2 0) false T3 3,.fnc (.t 9) 60 [.al 0,.al 2]])] (by kernel_rfl)
def qqA(n:Nat):LK Tryz.prog false:=mkL tab (qki n) [qqz n] Tryz.f31 [true,true,true,true,true,true,false,true,false,false] 0 n [.v (.t 6) T3,.v (.t 7) T3,.v (.t 48) T35,.v (.t 49) T3,.v (.t 50) T3,.obj (.t 4) false 83 1,.obj (.c 0 0) false 88 14,.v (.c 1 0) T88,.obj (.t 8) false 22 1,.row (.c 2 0) false T3 3,.fnc (.t 9) 60 [.al 0,.al 2]] [(.exit 0,[.obj (.t 4) false 83 1,.obj (.c 0 0) false 88 14,.v (.c 1 0) T88,.obj (.t 8) false 22 1,.row (.c 2 0) false T3 3,.fnc (.t 9) 60 [.al 0,.al 2]])] (by kernel_rfl)
def qqB(n:Nat):LK Tryz.prog false:=mkL tab (qki n) [] Tryz.f31 [true,true,true,true,true,true,true,false,true,false,false] 2 n [.v (.t 95) T39,.v (.t 96) T3,.v (.t 97) T3,.obj (.t 4) false 83 1,.obj (.c 0 0) false 88 14,.v (.c 1 0) T88,.obj (.t 8) false 22 1,.row (.c 2 0) false T3 3,.fnc (.t 9) 60 [.al 0,.al 2]] [(.exit 4,[.obj (.t 8) false 22 1,.row (.c 0 0) false T3 3])] (by kernel_rfl)
def qny(n:Nat):Ct Tryz.prog:=mkC tab (qki n) [qqA n,qqB n] Tryz.func31 [.d T41] [T22,T24] (by kernel_rfl)
end
noncomputable section
noncomputable def qsv(n:Nat):CL Tryz.prog:=⟨[],[],0,nof⟩
def qfY(n:Nat):Ct Tryz.prog:=mkC tab (qsv n) [] Tryz.func44 [.d T3,.d T3,.d T3] [T4] (by kernel_rfl)
noncomputable def qlP(n:Nat):CL Tryz.prog:=⟨[qfY n],[],0,nof⟩
def qlQ(n:Nat):LK Tryz.prog false:=mkL tab (qlP n) [] Tryz.f28 [true,true,false,true,false,false] 0 n [.v (.t 0) T22,.v (.t 3) T3,.v (.t 4) T3] [(.exit 0,[.v (.t 0) T22,.v (.t 3) T3]),(.ret,[.v (.t 2) T4])] (by kernel_rfl)
def qmi(n:Nat):Ct Tryz.prog:=mkC tab (qlP n) [qlQ n] Tryz.func28 [.d T22] [T4] (by kernel_rfl)
noncomputable def qsw(n:Nat):CL Tryz.prog:=⟨[qfY n],[],0,nof⟩
def qnU(n:Nat):Ct Tryz.prog:=mkC tab (qsw n) [] Tryz.func76 [.d T41,.d T3] [T4] (by kernel_rfl)
noncomputable def qia(n:Nat):CL Tryz.prog:=⟨[qfY n],[],0,nof⟩
def qlR(n:Nat):LK Tryz.prog false:=mkL tab (qia n) [] Tryz.f75 [true,false,true,false,false,true,false,false,true,true,true,false,false] 1 n [.v (.t 3) T3,.v (.t 5) T3,.obj (.t 1) false 41 13,.v (.c 0 0) T41,.obj (.t 4) false 112 3,.v (.c 1 0) T112] [(.exit 2,[.v (.t 3) T3,.obj (.t 1) false 41 13,.v (.c 0 0) T41]),(.ret,[.v (.t 2) T4])] (by kernel_rfl)
def qlS(n:Nat):LK Tryz.prog false:=mkL tab (qia n) [qlR n] Tryz.f75 [true,false,true,false,false] 0 n [.v (.t 3) T3,.obj (.t 1) false 41 13,.v (.c 0 0) T41] [(.exit 0,[.obj (.t 1) false 41 13,.v (.c 0 0) T41]),(.ret,[.v (.t 2) T4])] (by kernel_rfl)
def qmj(n:Nat):Ct Tryz.prog:=mkC tab (qia n) [qlS n] Tryz.func75 [.d T41] [T4] (by kernel_rfl)
noncomputable def qhI(n:Nat):CL Tryz.prog:=⟨[qmi n,qfY n,qol n,qmj n,qnU n],[],0,nof⟩
def qnV(n:Nat):LK Tryz.prog false:=mkL tab (qhI n) [] Tryz.f34 [true,true,true,false,true,false,false] 0 n [.v (.t 4) T3,.obj (.t 1) false 41 13,.v (.c 0 0) T41] [(.exit 0,[.obj (.t 1) false 41 13,.v (.c 0 0) T41]),(.ret,[.v (.t 2) T24])] (by kernel_rfl)
def qnW(n:Nat):LK Tryz.prog false:=mkL tab (qhI n) [] Tryz.f34 [true,true,true,true,false,true,false,false] 1 n [.v (.t 5) T3,.obj (.t 1) false 41 13,.v (.c 0 0) T41] [(.exit 2,[.obj (.t 1) false 41 13,.v (.c 0 0) T41]),(.ret,[.v (.t 2) T24])] (by kernel_rfl)
def qnX(n:Nat):LK Tryz.prog false:=mkL tab (qhI n) [] Tryz.f34 [true,true,true,true,true,false,true,false,false] 2 n [.v (.t 6) T3,.obj (.t 1) false 41 13,.v (.c 0 0) T41] [(.exit 4,[.obj (.t 1) false 41 13,.v (.c 0 0) T41]),(.ret,[.v (.t 2) T24])] (by kernel_rfl)
def qoz(n:Nat):Ct Tryz.prog:=mkC tab (qhI n) [qnV n,qnW n,qnX n] Tryz.func34 [.d T41] [T24] (by kernel_rfl)
noncomputable def qoA(n:Nat):CL Tryz.prog:=⟨[qmg n,qo1 n],[],0,nof⟩
def qoB(n:Nat):LK Tryz.prog false:=mkL tab (qoA n) [] Tryz.f20 [true,true,true,true,true,true,false,true,false,false] 0 n [.v (.t 4) T3,.obj (.t 1) false 41 13,.v (.c 0 0) T41,.obj (.t 2) false 41 13,.v (.c 1 0) T41,.obj (.t 3) false 41 13,.v (.c 2 0) T34,.v (.c 2 2) T35,.v (.c 2 3) T3,.v (.c 2 4) T22,.row (.c 2 5) false T22 22,.v (.c 2 6) T37,.v (.c 2 7) T38,.v (.c 2 8) T39,.v (.c 2 9) T3,.v (.c 2 10) T3,.v (.c 2 11) T3,.v (.c 2 12) T3] [(.exit 0,[.obj (.t 1) false 41 13,.v (.c 0 0) T41,.obj (.t 2) false 41 13,.v (.c 1 0) T41,.obj (.t 3) false 41 13,.v (.c 2 0) T34,.v (.c 2 2) T35,.v (.c 2 3) T3,.v (.c 2 4) T22,.row (.c 2 5) false T22 22,.v (.c 2 6) T37,.v (.c 2 7) T38,.v (.c 2 8) T39,.v (.c 2 9) T3,.v (.c 2 10) T3,.v (.c 2 11) T3,.v (.c 2 12) T3])] (by kernel_rfl)
def qo7(n:Nat):Ct Tryz.prog:=mkC tab (qoA n) [qoB n] Tryz.func20 [.d T41] [T41] (by kernel_rfl)
noncomputable def qo8(n:Nat):CL Tryz.prog:=⟨[qpX n],[],0,nof⟩
def qo9(n:Nat):LK Tryz.prog false:=mkL tab (qo8 n) [] Tryz.f18 [true,true,false,true,false,false] 0 n [.v (.t 3) T3,.obj (.t 1) false 41 13,.v (.c 0 0) T41] [(.exit 0,[]),(.ret,[.v (.t 2) T4])] (by kernel_rfl)
def qp1(n:Nat):Ct Tryz.prog:=mkC tab (qo8 n) [qo9 n] Tryz.func18 [.d T41] [T4] (by kernel_rfl)
noncomputable def qrG(n:Nat):CL Tryz.prog:=⟨[qss n],[],0,nof⟩
def qnb(n:Nat):Ct Tryz.prog:=mkC tab (qrG n) [] Tryz.func38 [] [T41] (by kernel_rfl)
end
end Go.Proofs.YtlmicgmhallkkaaGreatDoor
/- The contract of math/bits.TrailingZeros, by hand: it reads a table that is a package variable. -/
namespace Go.Proofs.YtlmicgmhallkkaaGreatDoor
open Go Go.Proofs Go.RowKit Go.Shelf
set_option maxHeartbeats 800000
attribute [local go_sem] Oper.semAt_some
def tz(s:Nat):Nat:=if s % 2=1 then 0 else if s % 4=2 then 1 else if s % 8=4 then 2 else if s % 16=8 then 3 else if s % 32=16 then 4 else if s % 64=32 then 5 else if s % 128=64 then 6 else 7
theorem qzL(s:Nat):tz s<8:=by unfold tz;repeat' split<;>try omega
def jj(k:Nat):Nat:=2 ^ k*285870213051353865 % 18446744073709551616/288230376151711744
theorem qIc(k:Nat)(hk:k<8):jj k<64:=by revert k;decide +kernel
theorem qHp(s:Nat):s<256→0<s→bits BinOp.and IntKind.u64 (s:Int) (IntKind.u64.wrap (-(s:Int)))=((2 ^ tz s:Nat):Int):=by
 revert s;decide +kernel
theorem qDN(k:Nat):k<8→IntKind.u64.wrap (((2 ^ k:Nat):Int)*285870213051353865)/288230376151711744=((jj k:Nat):Int):=by
 revert k;decide +kernel
theorem qFn(s:Nat)(hs:s<256)(h0:0<s):IntKind.u64.wrap (bits BinOp.and IntKind.u64 (s:Int) (IntKind.u64.wrap (-(s:Int)))*285870213051353865)/288230376151711744=((jj (tz s):Nat):Int):=by
 rw[qHp s hs h0];exact qDN _ (qzL s)
def qCC(w:World):Prop:=1<w.heap.size∧∀k,k<8→w.cell? ⟨1,jj k,none⟩=some (.int .u8 (k:Int))
theorem qDO(s k idx:Nat)(w:World)(hs0:((s:Int)==0)=false)
  (hE:IntKind.u64.wrap (bits BinOp.and IntKind.u64 (s:Int) (IntKind.u64.wrap (-(s:Int)))*285870213051353865)/288230376151711744=(idx:Int))
  (hj:idx<64) (hk:k<8) (hc:w.cell? ⟨1,idx,none⟩=some (.int .u8 (k:Int))) :
  Calls Tryz.prog 125 #[.int .u64 s] w fun e w'=>e = .returned (.int .i64 k)∧w=w':=by
 go_enter Tryz.func125,Tryz.ntmps125
 go_wp2_with fail
 go_ret
 exact ⟨rfl,rfl⟩
theorem qFo(s:Nat)(w:World)(hs:s<256)(h0:0<s)(ht:qCC w):Calls Tryz.prog 125 #[.int .u64 s] w fun e w'=>e = .returned (.int .i64 (tz s))∧w=w' :=
 qDO s (tz s) (jj (tz s)) w (by simp;omega) (qFn s hs h0) (qIc (tz s) (qzL s)) (qzL s) (ht.2 (tz s) (qzL s))
theorem qGG(s:Nat)(w:World)(hs:s<256)(h0:0<s)(ht:qCC w):Calls Tryz.prog 84 #[.int .u64 s] w fun e w'=>e = .returned (.int .i64 (tz s))∧w=w':=by
 have hs0:(0:Int)≤s:=by omega
 go_enter Tryz.func84,Tryz.ntmps84
 go_wp2_with (go_at_call 125;refine (qFo _ _ hs h0 ht).mono ?_;rintro e w1 ⟨rfl,rfl⟩)
 go_ret
 exact ⟨rfl,rfl⟩
theorem qDP:∀k,k<8→(1,(jj k,Value.int .u8 (k:Int)))∈gTab
 | 0,_=>List.mem_of_getElem? (i:=0) rfl
 | 1,_=>List.mem_of_getElem? (i:=1) rfl
 | 2,_=>List.mem_of_getElem? (i:=2) rfl
 | 3,_=>List.mem_of_getElem? (i:=3) rfl
 | 4,_=>List.mem_of_getElem? (i:=4) rfl
 | 5,_=>List.mem_of_getElem? (i:=5) rfl
 | 6,_=>List.mem_of_getElem? (i:=6) rfl
 | 7,_=>List.mem_of_getElem? (i:=7) rfl
 | k+8,h=>absurd h (by omega)
theorem qFp{w:World}(h:Gl w):qCC w:=⟨h.lt (qDP 0 (by decide)),fun k hk=>h _ (qDP k hk)⟩
def tzB(x:Int):Bool:=decide (0<x)&&decide (x<256)
noncomputable def tz_M(n:Nat)(x:qgT [.d (.i .u64)]):Option (qT [.i .i64]):=cond (tzB x.1) (some ((tz (Int.toNat x.1):Int),())) none
noncomputable def tz_C(n:Nat):Ct Tryz.prog:=⟨84,[.d (.i .u64)],.ts [.i .i64],tz_M n,fun x y h=>by
 obtain ⟨z,u⟩:=x
 change Int at z
 unfold tz_M at h
 cases hc:tzB z with
 | false=>simp only[hc,cond_false] at h;cases h
 | true =>
  simp only[hc,cond_true] at h
  injection h with h
  subst h
  unfold tzB at hc
  simp only[Bool.and_eq_true,decide_eq_true_eq] at hc
  obtain ⟨s,hs⟩:=Int.eq_ofNat_of_zero_le (show 0≤z by omega)
  subst hs
  refine ⟨enters_of (c:=qv Tryz.f84) Tryz.func84 (by kernel_rfl) (by kernel_rfl),fun w S vs hG hn henc=>?_⟩
  have h0:=henc 0 (.val (.int .u64 s)) rfl
  obtain ⟨v,rfl⟩:∃v,vs = #[v]:=by
   obtain ⟨l⟩:=vs
   match l,hn with
   | [v],_=>exact ⟨v,rfl⟩
  have h1:v = .int .u64 s:=h0.val_eq
  subst h1
  refine (qGG s w (by omega) (by omega) (qFp hG)).mono fun e w' ⟨e1,e2⟩=>?_
  subst e2
  exact ⟨Ext.refl _,_,e1,.val _⟩⟩
noncomputable section
noncomputable def qiI(n:Nat):CL Tryz.prog:=⟨[],[],0,fun _=>false⟩
noncomputable def qmk(n:Nat):Nat→St→PT (DEx×St):=fun _ _=>.fail
theorem qrH(n:Nat):qbi (qiI n).c (qv Tryz.f48) 0=[]:=by kernel_rfl
theorem qrI:Tryz.f48.body=some (qv Tryz.f48):=by kernel_rfl
abbrev qiJ:List It:=[.raw (.t 0)]
abbrev qib:List (List It):=[[.row (.t 0) false T3 3]]
noncomputable def qgP(n:Nat)(x:qg qiJ):Option (qbC qib):=runW tab (qiI n) (qmk n) (qv Tryz.f48) qiJ 1 8 [.tmp 2] qib x
noncomputable def qrJ(n:Nat):Cw Tryz.prog:=⟨48,1,qiJ,1,qib,qgP n,fun _ _ h=>qm3 (B:=tab) (cs:=qiI n) (lo:=qmk n) (rs:=[.tmp 2]) Tryz.func48 (by kernel_rfl) qrI (by kernel_rfl) (by decide) (qkW (qrH n) all_nil) h⟩
noncomputable def qk1(n:Nat):CL Tryz.prog:=⟨[],[],0,fun _=>false⟩
noncomputable def qoC(n:Nat):Nat→St→PT (DEx×St):=fun _ _=>.fail
theorem quv(n:Nat):qbi (qk1 n).c (qv Tryz.f48) 0=[]:=by kernel_rfl
theorem quw:Tryz.f48.body=some (qv Tryz.f48):=by kernel_rfl
abbrev qk2:List It:=[.v (.t 0) T22]
abbrev qhJ:List (List It):=[[.row (.t 0) false T3 3]]
noncomputable def qi0(n:Nat)(x:qg qk2):Option (qbC qhJ):=runW tab (qk1 n) (qoC n) (qv Tryz.f48) qk2 1 8 [.tmp 2] qhJ x
noncomputable def qux(n:Nat):Cw Tryz.prog:=⟨48,1,qk2,1,qhJ,qi0 n,fun _ _ h=>qm3 (B:=tab) (cs:=qk1 n) (lo:=qoC n) (rs:=[.tmp 2]) Tryz.func48 (by kernel_rfl) quw (by kernel_rfl) (by decide) (qkW (quv n) all_nil) h⟩
end
theorem quy(n:Nat)(c:Nat):qgP n (.slice none 0 c,())=some ([],()):=by kernel_rfl
theorem quz(n:Nat)(a:Addr)(c:Nat):qgP n (.slice (some a) 0 c,())=some ([],()):=by kernel_rfl
noncomputable def qpa(n:Nat):Cw Tryz.prog:=qBP 48 T3 qhJ (qgP n) (qi0 n) ([],()) (fun v y m0 h=>(qrJ n).okk (x:=(v,())) (y:=y) h m0 (qt1 m0)) (fun l y m0 h=>(qux n).okk (x:=(l,())) (y:=y) h m0 (qt1 m0)) (fun A c=>by cases A with | none=>exact quy n c | some a=>exact quz n a c)
noncomputable def quA(n:Nat):=(qpa n).M
noncomputable section
noncomputable def qmR(n:Nat):CL Tryz.prog:=⟨[],[],0,nof⟩
def qmS(n:Nat):LK Tryz.prog false:=mkL tab (qmR n) [] Tryz.f90 [true,false,true,false,false] 0 n [.v (.t 1) T3,.v (.t 11) T37,.v (.t 12) T3,.v (.t 13) T3,.obj (.t 0) true 88 14,.v (.c 0 0) T34,.v (.c 0 2) T35,.v (.c 0 3) T3,.row (.c 0 4) true T3 3,.v (.c 0 5) T36,.v (.c 0 6) T37,.v (.c 0 7) T38,.v (.c 0 8) T39,.v (.c 0 9) T3,.v (.c 0 10) T3,.v (.c 0 11) T3,.v (.c 0 12) T3,.v (.c 0 13) T35,.obj (.t 4) false 112 3,.v (.c 2 0) T112] [(.exit 0,[.v (.t 1) T3,.obj (.t 0) true 88 14,.v (.c 0 0) T34,.v (.c 0 2) T35,.v (.c 0 3) T3,.row (.c 0 4) true T3 3,.v (.c 0 5) T36,.v (.c 0 6) T37,.v (.c 0 7) T38,.v (.c 0 8) T39,.v (.c 0 9) T3,.v (.c 0 10) T3,.v (.c 0 11) T3,.v (.c 0 12) T3,.v (.c 0 13) T35,.obj (.t 4) false 112 3,.v (.c 2 0) T112]),(.ret,[.obj (.t 0) true 88 14,.v (.c 0 0) T34,.v (.c 0 2) T35,.v (.c 0 3) T3,.row (.c 0 4) true T3 3,.v (.c 0 5) T36,.v (.c 0 6) T37,.v (.c 0 7) T38,.v (.c 0 8) T39,.v (.c 0 9) T3,.v (.c 0 10) T3,.v (.c 0 11) T3,.v (.c 0 12) T3,.v (.c 0 13) T35,.obj (.t 4) false 112 3,.v (.c 2 0) T112])] (by kernel_rfl)
def qnc(n:Nat):Cw Tryz.prog:=mkW tab (qmR n) [qmS n] Tryz.func90 [.v (.t 1) T3,.obj (.t 0) true 88 14,.v (.c 0 0) T34,.v (.c 0 2) T35,.v (.c 0 3) T3,.row (.c 0 4) true T3 3,.v (.c 0 5) T36,.v (.c 0 6) T37,.v (.c 0 7) T38,.v (.c 0 8) T39,.v (.c 0 9) T3,.v (.c 0 10) T3,.v (.c 0 11) T3,.v (.c 0 12) T3,.v (.c 0 13) T35] 2 [[.v (.t 0) T112,.obj (.t 1) true 88 14,.v (.c 0 0) T34,.v (.c 0 2) T35,.v (.c 0 3) T3,.row (.c 0 4) true T3 3,.v (.c 0 5) T36,.v (.c 0 6) T37,.v (.c 0 7) T38,.v (.c 0 8) T39,.v (.c 0 9) T3,.v (.c 0 10) T3,.v (.c 0 11) T3,.v (.c 0 12) T3,.v (.c 0 13) T35]] (by kernel_rfl)
noncomputable def qsx(n:Nat):CL Tryz.prog:=⟨[],[],0,nof⟩
def qkv(n:Nat):Cw Tryz.prog:=mkW tab (qsx n) [] Tryz.func128 [.v (.t 1) T3,.v (.t 2) T3,.obj (.t 0) true 88 14,.v (.c 0 0) T34,.v (.c 0 2) T35,.v (.c 0 3) T3,.row (.c 0 4) true T3 3,.v (.c 0 5) T36,.v (.c 0 6) T37,.v (.c 0 7) T38,.v (.c 0 8) T39,.v (.c 0 9) T3,.v (.c 0 10) T3,.v (.c 0 11) T3,.v (.c 0 12) T3,.v (.c 0 13) T35] 3 [[.v (.t 0) T4,.obj (.t 1) true 88 14,.v (.c 0 0) T34,.v (.c 0 2) T35,.v (.c 0 3) T3,.row (.c 0 4) true T3 3,.v (.c 0 5) T36,.v (.c 0 6) T37,.v (.c 0 7) T38,.v (.c 0 8) T39,.v (.c 0 9) T3,.v (.c 0 10) T3,.v (.c 0 11) T3,.v (.c 0 12) T3,.v (.c 0 13) T35]] (by kernel_rfl)
noncomputable def qpy(n:Nat):CL Tryz.prog:=⟨[],[qkv n],0,nof⟩
def qhr(n:Nat):Cw Tryz.prog:=mkW tab (qpy n) [] Tryz.func129 [.v (.t 0) T64,.obj (.t 1) true 3 1,.v (.c 0 0) T3,.obj (.t 2) true 83 1,.obj (.c 1 0) true 88 14,.v (.c 2 0) T34,.v (.c 2 2) T35,.v (.c 2 3) T3,.row (.c 2 4) true T3 3,.v (.c 2 5) T36,.v (.c 2 6) T37,.v (.c 2 7) T38,.v (.c 2 8) T39,.v (.c 2 9) T3,.v (.c 2 10) T3,.v (.c 2 11) T3,.v (.c 2 12) T3,.v (.c 2 13) T35,.obj (.t 3) true 3 1,.v (.c 4 0) T3] 4 [[.v (.t 0) T4,.obj (.t 1) true 3 1,.v (.c 0 0) T3,.obj (.t 2) true 83 1,.obj (.c 1 0) true 88 14,.v (.c 2 0) T34,.v (.c 2 2) T35,.v (.c 2 3) T3,.row (.c 2 4) true T3 3,.v (.c 2 5) T36,.v (.c 2 6) T37,.v (.c 2 7) T38,.v (.c 2 8) T39,.v (.c 2 9) T3,.v (.c 2 10) T3,.v (.c 2 11) T3,.v (.c 2 12) T3,.v (.c 2 13) T35,.obj (.t 5) true 3 1,.v (.c 4 0) T3]] (by kernel_rfl)
noncomputable def qdT(n:Nat):CL Tryz.prog:=⟨[],[qhr n],0,nof⟩
def qdU(n:Nat):LK Tryz.prog false:=mkL tab (qdT n) [] Tryz.f145 [true,false,true,false,false] 0 n [.v (.t 0) T38,.v (.t 7) T3,.v (.t 8) T3,.fnc (.t 1) 129 [.box true 3 1,.box true 83 1,.box true 3 1],.v (.c 0 0) T3,.obj (.c 1 0) true 88 14,.v (.c 3 0) T34,.v (.c 3 2) T35,.v (.c 3 3) T3,.row (.c 3 4) true T3 3,.v (.c 3 5) T36,.v (.c 3 6) T37,.v (.c 3 7) T38,.v (.c 3 8) T39,.v (.c 3 9) T3,.v (.c 3 10) T3,.v (.c 3 11) T3,.v (.c 3 12) T3,.v (.c 3 13) T35,.v (.c 2 0) T3] [(.exit 0,[.fnc (.t 1) 129 [.box true 3 1,.box true 83 1,.box true 3 1],.v (.c 0 0) T3,.obj (.c 1 0) true 88 14,.v (.c 3 0) T34,.v (.c 3 2) T35,.v (.c 3 3) T3,.row (.c 3 4) true T3 3,.v (.c 3 5) T36,.v (.c 3 6) T37,.v (.c 3 7) T38,.v (.c 3 8) T39,.v (.c 3 9) T3,.v (.c 3 10) T3,.v (.c 3 11) T3,.v (.c 3 12) T3,.v (.c 3 13) T35,.v (.c 2 0) T3]),(.ret,[.v (.t 4) T3,.fnc (.t 1) 129 [.box true 3 1,.box true 83 1,.box true 3 1],.v (.c 0 0) T3,.obj (.c 1 0) true 88 14,.v (.c 3 0) T34,.v (.c 3 2) T35,.v (.c 3 3) T3,.row (.c 3 4) true T3 3,.v (.c 3 5) T36,.v (.c 3 6) T37,.v (.c 3 7) T38,.v (.c 3 8) T39,.v (.c 3 9) T3,.v (.c 3 10) T3,.v (.c 3 11) T3,.v (.c 3 12) T3,.v (.c 3 13) T35,.v (.c 2 0) T3])] (by kernel_rfl)
def qd6(n:Nat):Cw Tryz.prog:=mkW tab (qdT n) [qdU n] Tryz.func145 [.v (.t 0) T38,.fnc (.t 1) 129 [.box true 3 1,.box true 83 1,.box true 3 1],.v (.c 0 0) T3,.obj (.c 1 0) true 88 14,.v (.c 3 0) T34,.v (.c 3 2) T35,.v (.c 3 3) T3,.row (.c 3 4) true T3 3,.v (.c 3 5) T36,.v (.c 3 6) T37,.v (.c 3 7) T38,.v (.c 3 8) T39,.v (.c 3 9) T3,.v (.c 3 10) T3,.v (.c 3 11) T3,.v (.c 3 12) T3,.v (.c 3 13) T35,.v (.c 2 0) T3] 2 [[.v (.t 0) T3,.obj (.t 1) true 3 1,.obj (.t 2) true 83 1,.obj (.t 3) true 3 1,.v (.c 0 0) T3,.obj (.c 1 0) true 88 14,.v (.c 3 0) T34,.v (.c 3 2) T35,.v (.c 3 3) T3,.row (.c 3 4) true T3 3,.v (.c 3 5) T36,.v (.c 3 6) T37,.v (.c 3 7) T38,.v (.c 3 8) T39,.v (.c 3 9) T3,.v (.c 3 10) T3,.v (.c 3 11) T3,.v (.c 3 12) T3,.v (.c 3 13) T35,.v (.c 2 0) T3]] (by kernel_rfl)
noncomputable def qgU(n:Nat):CL Tryz.prog:=⟨[],[qfE n,qhr n,qd6 n],0,nof⟩
def qdu(n:Nat):Cw Tryz.prog:=mkW tab (qgU n) [] Tryz.func109 [.v (.t 0) T38,.fnc (.t 1) 129 [.box true 3 1,.box true 83 1,.box true 3 1],.v (.c 0 0) T3,.obj (.c 1 0) true 88 14,.v (.c 3 0) T34,.v (.c 3 2) T35,.v (.c 3 3) T3,.row (.c 3 4) true T3 3,.v (.c 3 5) T36,.v (.c 3 6) T37,.v (.c 3 7) T38,.v (.c 3 8) T39,.v (.c 3 9) T3,.v (.c 3 10) T3,.v (.c 3 11) T3,.v (.c 3 12) T3,.v (.c 3 13) T35,.v (.c 2 0) T3] 2 [[.v (.t 0) T4,.obj (.t 1) true 3 1,.obj (.t 2) true 83 1,.obj (.t 3) true 3 1,.v (.c 0 0) T3,.obj (.c 1 0) true 88 14,.v (.c 3 0) T34,.v (.c 3 2) T35,.v (.c 3 3) T3,.row (.c 3 4) true T3 3,.v (.c 3 5) T36,.v (.c 3 6) T37,.v (.c 3 7) T38,.v (.c 3 8) T39,.v (.c 3 9) T3,.v (.c 3 10) T3,.v (.c 3 11) T3,.v (.c 3 12) T3,.v (.c 3 13) T35,.v (.c 2 0) T3]] (by kernel_rfl)
noncomputable def qqp(n:Nat):CL Tryz.prog:=⟨[],[qdu n,qkv n],0,nof⟩
def qlT(n:Nat):Cw Tryz.prog:=mkW tab (qqp n) [] Tryz.func91 [.v (.t 1) T3,.v (.t 2) T3,.obj (.t 0) true 88 14,.v (.c 0 0) T34,.v (.c 0 2) T35,.v (.c 0 3) T3,.row (.c 0 4) true T3 3,.v (.c 0 5) T36,.v (.c 0 6) T37,.v (.c 0 7) T38,.v (.c 0 8) T39,.v (.c 0 9) T3,.v (.c 0 10) T3,.v (.c 0 11) T3,.v (.c 0 12) T3,.v (.c 0 13) T35] 3 [[.v (.t 0) T4,.obj (.t 1) true 88 14,.v (.c 0 0) T34,.v (.c 0 2) T35,.v (.c 0 3) T3,.row (.c 0 4) true T3 3,.v (.c 0 5) T36,.v (.c 0 6) T37,.v (.c 0 7) T38,.v (.c 0 8) T39,.v (.c 0 9) T3,.v (.c 0 10) T3,.v (.c 0 11) T3,.v (.c 0 12) T3,.v (.c 0 13) T35]] (by kernel_rfl)
noncomputable def qsy(n:Nat):CL Tryz.prog:=⟨[qt3 n],[qnc n,qlT n],0,nof⟩
def qnY(n:Nat):Cw Tryz.prog:=mkW tab (qsy n) [] Tryz.func50 [.v (.t 1) T91,.v (.t 2) T95,.obj (.t 0) true 88 14,.v (.c 0 0) T34,.v (.c 0 2) T35,.v (.c 0 3) T3,.row (.c 0 4) true T3 3,.v (.c 0 5) T36,.v (.c 0 6) T37,.v (.c 0 7) T38,.v (.c 0 8) T39,.v (.c 0 9) T3,.v (.c 0 10) T3,.v (.c 0 11) T3,.v (.c 0 12) T3,.v (.c 0 13) T35] 3 [[.v (.t 0) T3,.v (.t 1) T3,.obj (.t 2) true 88 14,.v (.c 0 0) T34,.v (.c 0 2) T35,.v (.c 0 3) T3,.row (.c 0 4) true T3 3,.v (.c 0 5) T36,.v (.c 0 6) T37,.v (.c 0 7) T38,.v (.c 0 8) T39,.v (.c 0 9) T3,.v (.c 0 10) T3,.v (.c 0 11) T3,.v (.c 0 12) T3,.v (.c 0 13) T35]] (by kernel_rfl)
noncomputable def qml(n:Nat):CL Tryz.prog:=⟨[],[qnY n],0,nof⟩
def qp2(n:Nat):LK Tryz.prog false:=mkL tab (qml n) [] Tryz.f49 [true,true,true,false,true,false,false,true,true,false,false,true,true,false,false] 1 n [.v (.t 6) T3,.v (.t 24) T35,.v (.t 25) T3,.v (.t 26) T3,.v (.t 31) T89,.v (.t 32) T3,.v (.t 33) T3,.obj (.t 1) true 83 1,.obj (.c 0 0) true 88 14,.v (.c 1 0) T34,.v (.c 1 2) T35,.v (.c 1 3) T3,.row (.c 1 4) true T3 3,.v (.c 1 5) T36,.v (.c 1 6) T37,.v (.c 1 7) T38,.v (.c 1 8) T39,.v (.c 1 9) T3,.v (.c 1 10) T3,.v (.c 1 11) T3,.v (.c 1 12) T3,.v (.c 1 13) T35,.obj (.t 2) true 3 1,.v (.c 3 0) T3,.obj (.t 3) true 3 1,.v (.c 4 0) T3,.obj (.t 8) false 91 5,.v (.c 5 0) T91] [(.exit 2,[.v (.t 6) T3,.v (.t 24) T35,.v (.t 25) T3,.v (.t 26) T3,.obj (.t 1) true 83 1,.obj (.c 0 0) true 88 14,.v (.c 1 0) T34,.v (.c 1 2) T35,.v (.c 1 3) T3,.row (.c 1 4) true T3 3,.v (.c 1 5) T36,.v (.c 1 6) T37,.v (.c 1 7) T38,.v (.c 1 8) T39,.v (.c 1 9) T3,.v (.c 1 10) T3,.v (.c 1 11) T3,.v (.c 1 12) T3,.v (.c 1 13) T35,.obj (.t 2) true 3 1,.v (.c 3 0) T3,.obj (.t 3) true 3 1,.v (.c 4 0) T3])] (by kernel_rfl)
def qp3(n:Nat):LK Tryz.prog false:=mkL tab (qml n) [qp2 n] Tryz.f49 [true,true,true,false,true,false,false] 0 n [.v (.t 6) T3,.v (.t 24) T35,.v (.t 25) T3,.v (.t 26) T3,.obj (.t 1) true 83 1,.obj (.c 0 0) true 88 14,.v (.c 1 0) T34,.v (.c 1 2) T35,.v (.c 1 3) T3,.row (.c 1 4) true T3 3,.v (.c 1 5) T36,.v (.c 1 6) T37,.v (.c 1 7) T38,.v (.c 1 8) T39,.v (.c 1 9) T3,.v (.c 1 10) T3,.v (.c 1 11) T3,.v (.c 1 12) T3,.v (.c 1 13) T35,.obj (.t 2) true 3 1,.v (.c 3 0) T3,.obj (.t 3) true 3 1,.v (.c 4 0) T3] [(.exit 0,[.v (.t 6) T3,.obj (.t 1) true 83 1,.obj (.c 0 0) true 88 14,.v (.c 1 0) T34,.v (.c 1 2) T35,.v (.c 1 3) T3,.row (.c 1 4) true T3 3,.v (.c 1 5) T36,.v (.c 1 6) T37,.v (.c 1 7) T38,.v (.c 1 8) T39,.v (.c 1 9) T3,.v (.c 1 10) T3,.v (.c 1 11) T3,.v (.c 1 12) T3,.v (.c 1 13) T35,.obj (.t 2) true 3 1,.v (.c 3 0) T3,.obj (.t 3) true 3 1,.v (.c 4 0) T3])] (by kernel_rfl)
def qqC(n:Nat):Cw Tryz.prog:=mkW tab (qml n) [qp3 n] Tryz.func49 [.v (.t 0) T3,.obj (.t 1) true 83 1,.obj (.c 0 0) true 88 14,.v (.c 1 0) T34,.v (.c 1 2) T35,.v (.c 1 3) T3,.row (.c 1 4) true T3 3,.v (.c 1 5) T36,.v (.c 1 6) T37,.v (.c 1 7) T38,.v (.c 1 8) T39,.v (.c 1 9) T3,.v (.c 1 10) T3,.v (.c 1 11) T3,.v (.c 1 12) T3,.v (.c 1 13) T35,.obj (.t 2) true 3 1,.v (.c 3 0) T3,.obj (.t 3) true 3 1,.v (.c 4 0) T3] 4 [[.v (.t 0) T4,.obj (.t 1) true 83 1,.obj (.c 0 0) true 88 14,.v (.c 1 0) T34,.v (.c 1 2) T35,.v (.c 1 3) T3,.row (.c 1 4) true T3 3,.v (.c 1 5) T36,.v (.c 1 6) T37,.v (.c 1 7) T38,.v (.c 1 8) T39,.v (.c 1 9) T3,.v (.c 1 10) T3,.v (.c 1 11) T3,.v (.c 1 12) T3,.v (.c 1 13) T35,.obj (.t 4) true 3 1,.v (.c 3 0) T3,.obj (.t 5) true 3 1,.v (.c 4 0) T3]] (by kernel_rfl)
noncomputable def qs9(n:Nat):CL Tryz.prog:=⟨[qej n],[qnq n,qpa n,qqC n],2,nof⟩
def qta(n:Nat):LK Tryz.prog false:=mkL tab (qs9 n) [] Tryz.f19 [true,true,true,true,true,true,true,true,false,false,false] 0 n [.v (.t 11) T3,.v (.t 12) T3,.obj (.t 4) false 3 1,.v (.c 0 0) T3,.obj (.t 5) false 3 1,.v (.c 1 0) T3,.obj (.t 8) false 83 1,.obj (.c 2 0) false 88 14,.v (.c 3 0) T34,.v (.c 3 2) T35,.v (.c 3 3) T3,.row (.c 3 4) false T3 3,.v (.c 3 5) T36,.v (.c 3 6) T37,.v (.c 3 7) T38,.v (.c 3 8) T39,.v (.c 3 9) T3,.v (.c 3 10) T3,.v (.c 3 11) T3,.v (.c 3 12) T3,.v (.c 3 13) T35,.fnc (.t 10) 49 [.al 2,.al 0,.al 1]] [(.exit 0,[.v (.t 12) T3])] (by kernel_rfl)
def qqq(n:Nat):Ct Tryz.prog:=mkC tab (qs9 n) [qta n] Tryz.func19 [.d T41,.d T3,.d T3] [T3,T24] (by kernel_rfl)
end
noncomputable section
noncomputable def qtb(n:Nat):CL Tryz.prog:=⟨[qej n],[],0,nof⟩
def qyl(n:Nat):LK Tryz.prog false:=mkL tab (qtb n) [] Tryz.f40 [true,true,true,false,true,false,false] 0 n [.v (.t 0) T22,.v (.t 4) T3,.v (.t 10) T22,.v (.t 11) T3,.v (.t 12) T3] [(.exit 0,[.v (.t 0) T22,.v (.t 4) T3]),(.ret,[.v (.t 2) T72,.v (.t 3) T24])] (by kernel_rfl)
def qzz(n:Nat):Ct Tryz.prog:=mkC tab (qtb n) [qyl n] Tryz.func40 [.d T22] [T72,T24] (by kernel_rfl)
noncomputable def qoD(n:Nat):CL Tryz.prog:=⟨[],[],0,nof⟩
def qt4(n:Nat):LK Tryz.prog false:=mkL tab (qoD n) [] Tryz.f42 [true,false,true,false,false] 0 n [.v (.t 2) T70,.v (.t 5) T72,.v (.t 6) T3,.v (.t 7) T3] [(.exit 0,[.v (.t 2) T70])] (by kernel_rfl)
def quB(n:Nat):Ct Tryz.prog:=mkC tab (qoD n) [qt4 n] Tryz.func42 [.d T72] [T70] (by kernel_rfl)
noncomputable def qpb(n:Nat):CL Tryz.prog:=⟨[tz_C n],[],0,nof⟩
def quC(n:Nat):LK Tryz.prog false:=mkL tab (qpb n) [] Tryz.f83 [true,false,false,false] 0 n [.v (.t 0) T72,.v (.t 1) T70,.v (.t 4) T3] [(.exit 0,[.v (.t 4) T3])] (by kernel_rfl)
def qvn(n:Nat):Ct Tryz.prog:=mkC tab (qpb n) [quC n] Tryz.func83 [.d T72,.d T70] [T3] (by kernel_rfl)
abbrev qr:List It:=[.v (.t 0) T70,.obj (.t 1) true 133 1,.mpi (.c 0 0) true T70 T75,.obj (.t 2) true 72 1,.v (.c 2 0) T72,.obj (.t 3) true 76 1,.fnc (.c 3 0) 82 [.al 0,.al 2,.al 3]]
abbrev qq:List (List It):=[[.v (.t 0) T75,.obj (.t 1) true 133 1,.mpi (.c 0 0) true T70 T75,.obj (.t 3) true 72 1,.v (.c 2 0) T72,.obj (.t 4) true 76 1,.fnc (.c 3 0) 82 [.al 0,.al 2,.al 3]]]
abbrev qh:Type:={g:qg qr→Option (qbC qq) // qr7 Tryz.prog 82 4 qr 1 qq g}
noncomputable def qL(n:Nat)(g:qh):CL Tryz.prog:=⟨[qvn n],[⟨82,4,qr,1,qq,g.1,g.2⟩],0,fun _=>false⟩
noncomputable def qeX(n:Nat)(g:qh):Nat→St→PT (DEx×St):=fun _ _=>.fail
abbrev qY:List It:=[.v (.t 0) T70,.v (.t 8) T70,.v (.t 9) T70,.v (.t 11) T70,.obj (.t 1) true 133 1,.mpi (.c 0 0) true T70 T75,.obj (.t 2) true 72 1,.v (.c 2 0) T72,.obj (.t 3) true 76 1,.fnc (.c 3 0) 82 [.al 0,.al 2,.al 3],.row (.t 10) false T70 70]
abbrev qby:List (DEx×List It):=[(.exit 0,[.v (.t 0) T70,.obj (.t 1) true 133 1,.mpi (.c 0 0) true T70 T75,.obj (.t 2) true 72 1,.v (.c 2 0) T72,.obj (.t 3) true 76 1,.fnc (.c 3 0) 82 [.al 0,.al 2,.al 3],.row (.t 10) false T70 70])]
noncomputable def qi4(n:Nat)(g:qh)(rec:qg qY→Option (qbD qby))(s:qg qY):Option (qbD qby):=(qgi tab (qL n g) (qeX n g) (subC [true,true,true,true,true,false,true,false,false] (qv Tryz.f82)) 1 (mkS qY 62 s)).run (Lp.leaf 62 qY qby rec)
noncomputable def qcM(n:Nat)(g:qh):Lp:=⟨62,qY,qby,qb n (qi4 n g)⟩
theorem qi5(n:Nat)(g:qh):qbi (qL n g).c (subC [true,true,true,true,true,false,true,false,false] (qv Tryz.f82)) 1=[]:=by kernel_rfl
theorem qic(n:Nat)(g:qh)(st:St)(r:DEx×St)(h:((qcM n g).go st).Is r):DA Tryz.prog false (.loop (subC [true,true,true,true,true,false,true,false,false] (qv Tryz.f82))) st r:=Lp.ok (L:=qcM n g) (B:=tab) (cs:=qL n g) (lo:=qeX n g) (id:=0) rfl (qkW (qi5 n g) all_nil) (fun _ _=>rfl) h
noncomputable def qe3(n:Nat)(g:qh):Nat→St→PT (DEx×St):=fun k st=>match k with
 | 0=>(qcM n g).go st
 | _=>.fail
theorem qjd(n:Nat)(g:qh):qbi (qL n g).c (qv Tryz.f82) 0=[(0,.loop (subC [true,true,true,true,true,false,true,false,false] (qv Tryz.f82)))]:=by kernel_rfl
theorem qje:Tryz.f82.body=some (qv Tryz.f82):=by kernel_rfl
noncomputable def qe4(n:Nat)(g:qh)(x:qg qr):Option (qbC qq):=runW tab (qL n g) (qe3 n g) (qv Tryz.f82) qr 4 62 [.tmp 5] qq x
theorem qi6(n:Nat)(g:qh):qr7 Tryz.prog 82 4 qr 1 qq (qe4 n g):=fun _ _ h=>qm3 (B:=tab) (cs:=qL n g) (lo:=qe3 n g) (rs:=[.tmp 5]) Tryz.func82 (by kernel_rfl) qje (by kernel_rfl) (by decide) (qkW (qjd n g) (all_cons (fun st r h=>qic n g st r h) all_nil)) h
noncomputable def qbJ(n:Nat):Nat→qh
 | 0=>⟨fun _=>none,fun _ _ h=>by cases h⟩
 | k+1=>⟨qe4 n (qbJ n k),qi6 n (qbJ n k)⟩
noncomputable def qjf(n:Nat)(x:qg qr):Option (qbC qq):=(qbJ n n).1 x
noncomputable def qjg(n:Nat):Cw Tryz.prog:=⟨82,4,qr,1,qq,qjf n,(qbJ n n).2⟩
noncomputable def qsz(n:Nat):CL Tryz.prog:=⟨[],[qjg n],0,nof⟩
def qtc(n:Nat):Ct Tryz.prog:=mkC tab (qsz n) [] Tryz.func41 [.d T72,.d T70] [T75] (by kernel_rfl)
noncomputable def qym(n:Nat):CL Tryz.prog:=⟨[qgt n],[],0,nof⟩
def qqr(n:Nat):Ct Tryz.prog:=mkC tab (qym n) [] Tryz.func86 [.d T138,.d T138] [T3] (by kernel_rfl)
noncomputable def qb2(n:Nat):CL Tryz.prog:=⟨[qqr n],[],0,nof⟩
def qhw(n:Nat):LK Tryz.prog false:=mkL tab (qb2 n) [] Tryz.f171 [true,false,false,true,false,false,true,false,false] 1 n [.v (.t 1) T3,.v (.t 2) T3,.fn (.t 3) 86 [] [],.v (.t 8) T3,.v (.t 9) T3,.row (.t 0) true T138 138] [(.exit 2,[.v (.t 1) T3,.v (.t 2) T3,.fn (.t 3) 86 [] [],.v (.t 8) T3,.row (.t 0) true T138 138])] (by kernel_rfl)
def qhx(n:Nat):LK Tryz.prog false:=mkL tab (qb2 n) [qhw n] Tryz.f171 [true,false,false] 0 n [.v (.t 1) T3,.v (.t 2) T3,.fn (.t 3) 86 [] [],.v (.t 8) T3,.row (.t 0) true T138 138] [(.exit 0,[.row (.t 0) true T138 138])] (by kernel_rfl)
def qhS(n:Nat):Cw Tryz.prog:=mkW tab (qb2 n) [qhx n] Tryz.func171 [.v (.t 1) T3,.v (.t 2) T3,.fn (.t 3) 86 [] [],.row (.t 0) true T138 138] 4 [[.row (.t 0) true T138 138]] (by kernel_rfl)
noncomputable def qbK(n:Nat):CL Tryz.prog:=⟨[qqr n],[qhS n],0,nof⟩
def qjh(n:Nat):LK Tryz.prog false:=mkL tab (qbK n) [] Tryz.f126 [true,true,false,false,false] 0 n [.v (.t 1) T3,.fn (.t 2) 86 [] [],.v (.t 6) T3,.v (.t 7) T3,.v (.t 8) T3,.row (.t 0) true T138 138] [(.exit 0,[.v (.t 1) T3,.fn (.t 2) 86 [] [],.v (.t 6) T3,.v (.t 7) T3,.row (.t 0) true T138 138])] (by kernel_rfl)
def qji(n:Nat):LK Tryz.prog false:=mkL tab (qbK n) [] Tryz.f126 [true,true,true,true,false,false,true,false,true,false,false,false] 2 n [.v (.t 1) T3,.fn (.t 2) 86 [] [],.v (.t 6) T3,.v (.t 7) T3,.v (.t 8) T3,.row (.t 0) true T138 138] [(.exit 4,[.v (.t 1) T3,.fn (.t 2) 86 [] [],.v (.t 6) T3,.v (.t 7) T3,.row (.t 0) true T138 138])] (by kernel_rfl)
def qjj(n:Nat):LK Tryz.prog false:=mkL tab (qbK n) [qji n] Tryz.f126 [true,true,true,true,false,false] 1 n [.v (.t 1) T3,.fn (.t 2) 86 [] [],.v (.t 6) T3,.row (.t 0) true T138 138] [(.exit 2,[.row (.t 0) true T138 138])] (by kernel_rfl)
def qjG(n:Nat):Cw Tryz.prog:=mkW tab (qbK n) [qjh n,qjj n] Tryz.func126 [.v (.t 1) T3,.fn (.t 2) 86 [] [],.row (.t 0) true T138 138] 3 [[.row (.t 0) true T138 138]] (by kernel_rfl)
noncomputable def qi7(n:Nat):CL Tryz.prog:=⟨[qqr n],[qjG n],0,nof⟩
def qjk(n:Nat):Cw Tryz.prog:=mkW tab (qi7 n) [] Tryz.func85 [.fn (.t 1) 86 [] [],.row (.t 0) true T138 138] 2 [[.row (.t 0) true T138 138]] (by kernel_rfl)
noncomputable def qp4(n:Nat):CL Tryz.prog:=⟨[],[],0,nof⟩
def qlj(n:Nat):Ct Tryz.prog:=mkC tab (qp4 n) [] Tryz.func88 [.d T138] [T4] (by kernel_rfl)
noncomputable def qcZ(n:Nat):CL Tryz.prog:=⟨[qlj n],[],0,nof⟩
def qgy(n:Nat):LK Tryz.prog false:=mkL tab (qcZ n) [] Tryz.f127 [true,false,true,false,false] 0 n [.fn (.t 1) 88 [] [],.v (.t 7) T3,.v (.t 8) T3,.row (.t 0) true T138 138] [(.exit 0,[.row (.t 0) true T138 138]),(.ret,[.v (.t 4) T3,.row (.t 0) true T138 138])] (by kernel_rfl)
def qgI(n:Nat):Cw Tryz.prog:=mkW tab (qcZ n) [qgy n] Tryz.func127 [.fn (.t 1) 88 [] [],.row (.t 0) true T138 138] 2 [[.v (.t 0) T3,.row (.t 1) true T138 138]] (by kernel_rfl)
noncomputable def qdv(n:Nat):CL Tryz.prog:=⟨[qlj n],[qgI n],0,nof⟩
def qg6(n:Nat):LK Tryz.prog false:=mkL tab (qdv n) [] Tryz.f87 [true,true,true,false,true,false,false] 0 n [.fn (.t 1) 88 [] [],.v (.t 5) T3,.v (.t 6) T3,.row (.t 0) true T138 138] [(.exit 0,[.v (.t 5) T3,.row (.t 0) true T138 138])] (by kernel_rfl)
def qhd(n:Nat):Cw Tryz.prog:=mkW tab (qdv n) [qg6 n] Tryz.func87 [.fn (.t 1) 88 [] [],.row (.t 0) true T138 138] 2 [[.row (.t 1) true T138 138,.sub (.t 0) 0]] (by kernel_rfl)
noncomputable def qid(n:Nat):CL Tryz.prog:=⟨[tz_C n],[qjk n,qhd n],1,nof⟩
def qqT(n:Nat):LK Tryz.prog false:=mkL tab (qid n) [] Tryz.f43 [true,true,false,false,false] 0 n [.v (.t 0) T72,.v (.t 1) T70,.row (.t 4) false T80 80,.row (.t 5) false T138 138] [(.exit 0,[.row (.t 4) false T80 80,.row (.t 5) false T138 138])] (by kernel_rfl)
def qqU(n:Nat):LK Tryz.prog false:=mkL tab (qid n) [] Tryz.f43 [true,true,true,false,false,false] 1 n [.row (.t 4) false T80 80,.row (.t 5) false T138 138] [(.exit 2,[.row (.t 4) false T80 80])] (by kernel_rfl)
def qrm(n:Nat):Ct Tryz.prog:=mkC tab (qid n) [qqT n,qqU n] Tryz.func43 [.d T72,.d T70] [T27] (by kernel_rfl)
noncomputable def qsf(n:Nat):CL Tryz.prog:=⟨[qzz n,qtc n,quB n,qrm n],[],0,nof⟩
def qxL(n:Nat):LK Tryz.prog false:=mkL tab (qsf n) [] Tryz.f16 [true,true,true,true,false,true,false,false] 0 n [.v (.t 4) T72,.v (.t 20) T75,.v (.t 21) T3,.v (.t 22) T3,.row (.t 6) false T80 80] [(.exit 0,[.row (.t 6) false T80 80])] (by kernel_rfl)
def qyn(n:Nat):Ct Tryz.prog:=mkC tab (qsf n) [qxL n] Tryz.func16 [.d T22] [T27,T24] (by kernel_rfl)
noncomputable def qxM(n:Nat):CL Tryz.prog:=⟨[qyn n],[],0,nof⟩
def qtd(n:Nat):Ct Tryz.prog:=mkC tab (qxM n) [] Tryz.func14 [.d T22] [T3,T24] (by kernel_rfl)
end
noncomputable section
end
noncomputable section
noncomputable def qyo(n:Nat):CL Tryz.prog:=⟨[qej n,qpw n,qqo n],[],0,nof⟩
def qHh(n:Nat):Ct Tryz.prog:=mkC tab (qyo n) [] Tryz.func25 [.d T3,.d T22] [T22,T24] (by kernel_rfl)
noncomputable def qte(n:Nat):CL Tryz.prog:=⟨[],[],0,nof⟩
def qBQ(n:Nat):LK Tryz.prog false:=mkL tab (qte n) [] Tryz.f95 [true,false,true,false,false] 0 n [.v (.t 1) T3,.v (.t 5) T3,.obj (.t 2) false 41 13,.v (.c 0 0) T41,.obj (.t 4) false 112 3,.v (.c 1 0) T112] [(.exit 0,[.v (.t 1) T3,.obj (.t 4) false 112 3,.v (.c 0 0) T112]),(.ret,[.obj (.t 4) false 112 3,.v (.c 0 0) T112])] (by kernel_rfl)
noncomputable def qmm(n:Nat):CL Tryz.prog:=⟨[],[],0,nof⟩
def qmn(n:Nat):LK Tryz.prog false:=mkL tab (qmm n) [] Tryz.f27 [true,true,false,true,false,false] 0 n [.v (.t 0) T22,.v (.t 1) T22,.v (.t 5) T3] [(.exit 0,[]),(.ret,[.v (.t 4) T4])] (by kernel_rfl)
def qjl(n:Nat):Ct Tryz.prog:=mkC tab (qmm n) [qmn n] Tryz.func27 [.d T22,.d T22] [T4] (by kernel_rfl)
noncomputable def qtf(n:Nat):CL Tryz.prog:=⟨[qtd n,qqq n,qjl n,qny n,qnb n],[],0,nof⟩
def qoE(n:Nat):Ct Tryz.prog:=mkC tab (qtf n) [] Tryz.func13 [] [T4] (by kernel_rfl)
noncomputable def qtg(n:Nat):CL Tryz.prog:=⟨[qp1 n,qoz n],[],0,nof⟩
def qoF(n:Nat):Ct Tryz.prog:=mkC tab (qtg n) [] Tryz.func23 [.d T41] [T4] (by kernel_rfl)
noncomputable def qfB(n:Nat):CL Tryz.prog:=⟨[qo7 n],[],0,nof⟩
def qnd(n:Nat):LK Tryz.prog false:=mkL tab (qfB n) [] Tryz.f35 [true,true,true,false,true,false,false] 0 n [.v (.t 1) T3,.v (.t 2) T4,.v (.t 8) T3,.obj (.t 3) false 41 13,.v (.c 0 0) T41,.obj (.t 6) false 41 13,.v (.c 1 0) T41,.obj (.t 7) false 41 13,.v (.c 2 0) T34,.row (.c 2 2) false T91 91,.v (.c 2 3) T3,.v (.c 2 4) T22,.v (.c 2 5) T36,.row (.c 2 6) false T112 112,.row (.c 2 7) false T64 64,.row (.c 2 8) false T108 108,.v (.c 2 9) T3,.v (.c 2 10) T3,.v (.c 2 11) T3,.v (.c 2 12) T3] [(.exit 0,[.v (.t 1) T3,.v (.t 2) T4,.obj (.t 3) false 41 13,.v (.c 0 0) T41,.obj (.t 6) false 41 13,.v (.c 1 0) T41,.obj (.t 7) false 41 13,.v (.c 2 0) T34,.row (.c 2 2) false T91 91,.v (.c 2 3) T3,.v (.c 2 4) T22,.v (.c 2 5) T36,.row (.c 2 6) false T112 112,.row (.c 2 7) false T64 64,.row (.c 2 8) false T108 108,.v (.c 2 9) T3,.v (.c 2 10) T3,.v (.c 2 11) T3,.v (.c 2 12) T3])] (by kernel_rfl)
def qne(n:Nat):LK Tryz.prog false:=mkL tab (qfB n) [] Tryz.f35 [true,true,true,true,true,false,true,false,false] 1 n [.v (.t 1) T3,.v (.t 9) T3,.obj (.t 3) false 41 13,.v (.c 0 0) T41,.obj (.t 6) false 41 13,.v (.c 1 0) T41,.obj (.t 7) false 41 13,.v (.c 2 0) T34,.row (.c 2 2) false T91 91,.v (.c 2 3) T3,.v (.c 2 4) T22,.v (.c 2 5) T36,.row (.c 2 6) false T112 112,.row (.c 2 7) false T64 64,.row (.c 2 8) false T108 108,.v (.c 2 9) T3,.v (.c 2 10) T3,.v (.c 2 11) T3,.v (.c 2 12) T3] [(.exit 2,[.v (.t 1) T3,.obj (.t 3) false 41 13,.v (.c 0 0) T41,.obj (.t 6) false 41 13,.v (.c 1 0) T41,.obj (.t 7) false 41 13,.v (.c 2 0) T34,.row (.c 2 2) false T91 91,.v (.c 2 3) T3,.v (.c 2 4) T22,.v (.c 2 5) T36,.row (.c 2 6) false T112 112,.row (.c 2 7) false T64 64,.row (.c 2 8) false T108 108,.v (.c 2 9) T3,.v (.c 2 10) T3,.v (.c 2 11) T3,.v (.c 2 12) T3])] (by kernel_rfl)
def qnf(n:Nat):LK Tryz.prog false:=mkL tab (qfB n) [] Tryz.f35 [true,true,true,true,true,true,false,true,false,false] 2 n [.v (.t 1) T3,.v (.t 10) T3,.obj (.t 3) false 41 13,.v (.c 0 0) T41,.obj (.t 6) false 41 13,.v (.c 1 0) T41,.obj (.t 7) false 41 13,.v (.c 2 0) T34,.row (.c 2 2) false T91 91,.v (.c 2 3) T3,.v (.c 2 4) T22,.v (.c 2 5) T36,.row (.c 2 6) false T112 112,.row (.c 2 7) false T64 64,.row (.c 2 8) false T108 108,.v (.c 2 9) T3,.v (.c 2 10) T3,.v (.c 2 11) T3,.v (.c 2 12) T3] [(.exit 4,[.obj (.t 3) false 41 13,.v (.c 0 0) T41,.obj (.t 6) false 41 13,.v (.c 1 0) T41,.obj (.t 7) false 41 13,.v (.c 2 0) T34,.row (.c 2 2) false T91 91,.v (.c 2 3) T3,.v (.c 2 4) T22,.v (.c 2 5) T36,.row (.c 2 6) false T112 112,.row (.c 2 7) false T64 64,.row (.c 2 8) false T108 108,.v (.c 2 9) T3,.v (.c 2 10) T3,.v (.c 2 11) T3,.v (.c 2 12) T3])] (by kernel_rfl)
def qng(n:Nat):LK Tryz.prog false:=mkL tab (qfB n) [] Tryz.f35 [true,true,true,true,true,true,true,false,true,false,false] 3 n [.v (.t 11) T3,.obj (.t 3) false 41 13,.v (.c 0 0) T41,.obj (.t 6) false 41 13,.v (.c 1 0) T41,.obj (.t 7) false 41 13,.v (.c 2 0) T34,.row (.c 2 2) false T91 91,.v (.c 2 3) T3,.v (.c 2 4) T22,.v (.c 2 5) T36,.row (.c 2 6) false T112 112,.row (.c 2 7) false T64 64,.row (.c 2 8) false T108 108,.v (.c 2 9) T3,.v (.c 2 10) T3,.v (.c 2 11) T3,.v (.c 2 12) T3] [(.exit 6,[.obj (.t 6) false 41 13,.v (.c 0 0) T41,.obj (.t 7) false 41 13,.v (.c 1 0) T34,.row (.c 1 2) false T91 91,.v (.c 1 3) T3,.v (.c 1 4) T22,.v (.c 1 5) T36,.row (.c 1 6) false T112 112,.row (.c 1 7) false T64 64,.row (.c 1 8) false T108 108,.v (.c 1 9) T3,.v (.c 1 10) T3,.v (.c 1 11) T3,.v (.c 1 12) T3])] (by kernel_rfl)
def qnZ(n:Nat):Ct Tryz.prog:=mkC tab (qfB n) [qnd n,qne n,qnf n,qng n] Tryz.func35 [.d T41,.d T3,.d T4] [T41] (by kernel_rfl)
noncomputable def qqs(n:Nat):CL Tryz.prog:=⟨[qoE n,qqq n,qoF n,qjl n,quq n,qny n,qnZ n],[],0,nof⟩
def qes(n:Nat):Ct Tryz.prog:=mkC tab (qqs n) [] Tryz.func10 [.d T41,.d T60] [T4] (by kernel_rfl)
end
end Go.Proofs.YtlmicgmhallkkaaGreatDoor
