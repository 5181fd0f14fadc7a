/- Texts DnN, DnO, DnQ, Dnz, DnV, DnW, DnX, DnY, DnL, DnZ in one. -/
import Derived.Test.YtcjcacbhkoainaaGreatDoorNe
import Derived.Test.YtcjcacbhkoainaaGreatDoorNd
import Derived.Test.YtcjcacbhkoainaaGreatDoorKa
import Derived.Test.YtcjcacbhkoainaaGreatDoorTy
/- Printed: what functions of the program compute. -/
set_option linter.constructorNameAsVariable false
set_option linter.unusedSimpArgs false
set_option linter.unusedVariables false
set_option linter.unusedSectionVars false
namespace Go.Proofs.YtcjcacbhkoainaaGreatDoor
open Go Go.Proofs Go.RowKit
set_option maxRecDepth 20000
noncomputable section
noncomputable def qwk(n:Nat):CL Tryz.prog:=⟨[],[],0,nof⟩
def qeJ(n:Nat):Ct Tryz.prog:=mkC tab (qwk n) [] Tryz.func44 [.d T3,.d T3,.d T3] [T4] (by kernel_rfl)
noncomputable def qvx(n:Nat):CL Tryz.prog:=⟨[qeJ n],[],0,nof⟩
def qg4(n:Nat):Ct Tryz.prog:=mkC tab (qvx n) [] Tryz.func87 [.d T3] [T4] (by kernel_rfl)
noncomputable def qy2(n:Nat):CL Tryz.prog:=⟨[qeJ n],[],0,nof⟩
def qkJ(n:Nat):Ct Tryz.prog:=mkC tab (qy2 n) [] Tryz.func82 [.d T3] [T4] (by kernel_rfl)
noncomputable def qlR(n:Nat):CL Tryz.prog:=⟨[qg4 n],[],0,nof⟩
def qc8(n:Nat):Cw Tryz.prog:=mkW tab (qlR n) [] Tryz.func109 [.v (.t 0) T3,.obj (.t 1) true 99 1,.fnc (.c 0 0) 87 []] 2 [[.v (.t 0) T4,.obj (.t 1) true 99 1,.fnc (.c 0 0) 87 []]] (by kernel_rfl)
noncomputable def qde(n:Nat):CL Tryz.prog:=⟨[qg4 n],[qc8 n],0,nof⟩
def qdf(n:Nat):LK Tryz.prog false:=mkL tab (qde n) [] Tryz.f150 [true,false,true,false,false] 0 n [.v (.t 0) T22,.v (.t 7) T3,.v (.t 8) T3,.fnc (.t 1) 109 [.box true 99 1],.fnc (.c 0 0) 87 []] [(.exit 0,[.fnc (.t 1) 109 [.box true 99 1],.fnc (.c 0 0) 87 []]),(.ret,[.v (.t 4) T3,.fnc (.t 1) 109 [.box true 99 1],.fnc (.c 0 0) 87 []])] (by kernel_rfl)
def qdv(n:Nat):Cw Tryz.prog:=mkW tab (qde n) [qdf n] Tryz.func150 [.v (.t 0) T22,.fnc (.t 1) 109 [.box true 99 1],.fnc (.c 0 0) 87 []] 2 [[.v (.t 0) T3,.obj (.t 1) true 99 1,.fnc (.c 0 0) 87 []]] (by kernel_rfl)
noncomputable def qfZ(n:Nat):CL Tryz.prog:=⟨[qg4 n],[qc8 n,qdv n],0,nof⟩
def qcX(n:Nat):Cw Tryz.prog:=mkW tab (qfZ n) [] Tryz.func108 [.v (.t 0) T22,.fnc (.t 1) 109 [.box true 99 1],.fnc (.c 0 0) 87 []] 2 [[.v (.t 0) T4,.obj (.t 1) true 99 1,.fnc (.c 0 0) 87 []]] (by kernel_rfl)
noncomputable def qmi(n:Nat):CL Tryz.prog:=⟨[qg4 n],[qcX n],0,nof⟩
def qh1(n:Nat):Cw Tryz.prog:=mkW tab (qmi n) [] Tryz.func81 [.v (.t 0) T22,.fn (.t 1) 87 [] []] 2 [[.v (.t 0) T4]] (by kernel_rfl)
noncomputable def qm9(n:Nat):CL Tryz.prog:=⟨[qkJ n],[],0,nof⟩
def qfO(n:Nat):Cw Tryz.prog:=mkW tab (qm9 n) [] Tryz.func109 [.v (.t 0) T3,.obj (.t 1) true 99 1,.fnc (.c 0 0) 82 []] 2 [[.v (.t 0) T4,.obj (.t 1) true 99 1,.fnc (.c 0 0) 82 []]] (by kernel_rfl)
noncomputable def qdP(n:Nat):CL Tryz.prog:=⟨[qkJ n],[qfO n],0,nof⟩
def qdQ(n:Nat):LK Tryz.prog false:=mkL tab (qdP n) [] Tryz.f150 [true,false,true,false,false] 0 n [.v (.t 0) T22,.v (.t 7) T3,.v (.t 8) T3,.fnc (.t 1) 109 [.box true 99 1],.fnc (.c 0 0) 82 []] [(.exit 0,[.fnc (.t 1) 109 [.box true 99 1],.fnc (.c 0 0) 82 []]),(.ret,[.v (.t 4) T3,.fnc (.t 1) 109 [.box true 99 1],.fnc (.c 0 0) 82 []])] (by kernel_rfl)
def qd0(n:Nat):Cw Tryz.prog:=mkW tab (qdP n) [qdQ n] Tryz.func150 [.v (.t 0) T22,.fnc (.t 1) 109 [.box true 99 1],.fnc (.c 0 0) 82 []] 2 [[.v (.t 0) T3,.obj (.t 1) true 99 1,.fnc (.c 0 0) 82 []]] (by kernel_rfl)
noncomputable def qgy(n:Nat):CL Tryz.prog:=⟨[qkJ n],[qc8 n,qfO n,qd0 n],0,nof⟩
def qdC(n:Nat):Cw Tryz.prog:=mkW tab (qgy n) [] Tryz.func108 [.v (.t 0) T22,.fnc (.t 1) 109 [.box true 99 1],.fnc (.c 0 0) 82 []] 2 [[.v (.t 0) T4,.obj (.t 1) true 99 1,.fnc (.c 0 0) 82 []]] (by kernel_rfl)
noncomputable def qnU(n:Nat):CL Tryz.prog:=⟨[qkJ n],[qdC n],0,nof⟩
def qjL(n:Nat):Cw Tryz.prog:=mkW tab (qnU n) [] Tryz.func81 [.v (.t 0) T22,.fn (.t 1) 82 [] []] 2 [[.v (.t 0) T4]] (by kernel_rfl)
noncomputable def qqX(n:Nat):CL Tryz.prog:=⟨[],[qh1 n],0,nof⟩
def qqY(n:Nat):LK Tryz.prog false:=mkL tab (qqX n) [] Tryz.f77 [true,true,false,true,false,false] 0 n [.v (.t 0) T22,.v (.t 3) T3,.v (.t 6) T22,.v (.t 7) T3,.v (.t 8) T3] [(.exit 0,[.v (.t 0) T22,.v (.t 3) T3])] (by kernel_rfl)
def qrL(n:Nat):Ct Tryz.prog:=mkC tab (qqX n) [qqY n] Tryz.func77 [.d T22] [T4] (by kernel_rfl)
noncomputable def quJ(n:Nat):CL Tryz.prog:=⟨[qeJ n],[],0,nof⟩
def qcy(n:Nat):Cw Tryz.prog:=mkW tab (quJ n) [] Tryz.func75 [.v (.t 0) T3,.obj (.t 1) true 41 13,.v (.c 0 0) T41] 2 [[.v (.t 0) T4,.obj (.t 1) true 41 13,.v (.c 0 0) T41]] (by kernel_rfl)
noncomputable def quK(n:Nat):CL Tryz.prog:=⟨[qrL n],[],0,nof⟩
def qh2(n:Nat):Cw Tryz.prog:=mkW tab (quK n) [] Tryz.func76 [.v (.t 0) T22,.obj (.t 1) true 41 13,.v (.c 0 0) T41] 2 [[.v (.t 0) T4,.obj (.t 1) true 41 13,.v (.c 0 0) T41]] (by kernel_rfl)
noncomputable def quL(n:Nat):CL Tryz.prog:=⟨[qeJ n],[],0,nof⟩
def qh3(n:Nat):Cw Tryz.prog:=mkW tab (quL n) [] Tryz.func78 [.v (.t 0) T95,.obj (.t 1) true 136 1,.mpi (.c 0 0) true T3 T3,.obj (.t 2) true 41 13,.v (.c 2 0) T41] 3 [[.v (.t 0) T4,.obj (.t 1) true 136 1,.mpi (.c 0 0) true T3 T3,.obj (.t 3) true 41 13,.v (.c 2 0) T41]] (by kernel_rfl)
noncomputable def qna(n:Nat):CL Tryz.prog:=⟨[],[qcy n],0,nof⟩
def qcK(n:Nat):Cw Tryz.prog:=mkW tab (qna n) [] Tryz.func79 [.v (.t 0) T43,.obj (.t 1) true 99 1,.fnc (.c 0 0) 75 [.box true 41 13],.v (.c 1 0) T41] 2 [[.v (.t 0) T4,.obj (.t 1) true 99 1,.fnc (.c 0 0) 75 [.box true 41 13],.v (.c 1 0) T41]] (by kernel_rfl)
noncomputable def qnb(n:Nat):CL Tryz.prog:=⟨[qeJ n],[qcy n],0,nof⟩
def qcL(n:Nat):Cw Tryz.prog:=mkW tab (qnb n) [] Tryz.func80 [.v (.t 0) T90,.obj (.t 1) true 99 1,.obj (.t 2) true 41 13,.v (.c 1 0) T41,.fnc (.c 0 0) 75 [.al 1]] 3 [[.v (.t 0) T4,.obj (.t 1) true 99 1,.obj (.t 2) true 41 13,.v (.c 1 0) T41,.fnc (.c 0 0) 75 [.al 1]]] (by kernel_rfl)
noncomputable def qlS(n:Nat):CL Tryz.prog:=⟨[],[qh2 n],0,nof⟩
def qeS(n:Nat):Cw Tryz.prog:=mkW tab (qlS n) [] Tryz.func111 [.v (.t 0) T22,.obj (.t 1) true 31 1,.fnc (.c 0 0) 76 [.box true 41 13],.v (.c 1 0) T41] 2 [[.v (.t 0) T4,.obj (.t 1) true 31 1,.fnc (.c 0 0) 76 [.box true 41 13],.v (.c 1 0) T41]] (by kernel_rfl)
noncomputable def qdg(n:Nat):CL Tryz.prog:=⟨[],[qh2 n,qeS n],0,nof⟩
def qdh(n:Nat):LK Tryz.prog false:=mkL tab (qdg n) [] Tryz.f151 [true,false,true,false,false] 0 n [.v (.t 0) T36,.v (.t 7) T3,.v (.t 8) T3,.fnc (.t 1) 111 [.box true 31 1],.fnc (.c 0 0) 76 [.box true 41 13],.v (.c 1 0) T41] [(.exit 0,[.fnc (.t 1) 111 [.box true 31 1],.fnc (.c 0 0) 76 [.box true 41 13],.v (.c 1 0) T41]),(.ret,[.v (.t 4) T3,.fnc (.t 1) 111 [.box true 31 1],.fnc (.c 0 0) 76 [.box true 41 13],.v (.c 1 0) T41])] (by kernel_rfl)
def qdw(n:Nat):Cw Tryz.prog:=mkW tab (qdg n) [qdh n] Tryz.func151 [.v (.t 0) T36,.fnc (.t 1) 111 [.box true 31 1],.fnc (.c 0 0) 76 [.box true 41 13],.v (.c 1 0) T41] 2 [[.v (.t 0) T3,.obj (.t 1) true 31 1,.fnc (.c 0 0) 76 [.box true 41 13],.v (.c 1 0) T41]] (by kernel_rfl)
noncomputable def qf0(n:Nat):CL Tryz.prog:=⟨[],[qh2 n,qeS n,qdw n],0,nof⟩
def qcY(n:Nat):Cw Tryz.prog:=mkW tab (qf0 n) [] Tryz.func110 [.v (.t 0) T36,.fnc (.t 1) 111 [.box true 31 1],.fnc (.c 0 0) 76 [.box true 41 13],.v (.c 1 0) T41] 2 [[.v (.t 0) T4,.obj (.t 1) true 31 1,.fnc (.c 0 0) 76 [.box true 41 13],.v (.c 1 0) T41]] (by kernel_rfl)
noncomputable def qmj(n:Nat):CL Tryz.prog:=⟨[],[qh2 n,qcY n],0,nof⟩
def qh4(n:Nat):Cw Tryz.prog:=mkW tab (qmj n) [] Tryz.func83 [.v (.t 0) T36,.fnc (.t 1) 76 [.box true 41 13],.v (.c 0 0) T41] 2 [[.v (.t 0) T4,.obj (.t 1) true 41 13,.v (.c 0 0) T41]] (by kernel_rfl)
noncomputable def qkb(n:Nat):CL Tryz.prog:=⟨[],[qh3 n],0,nof⟩
def qdR(n:Nat):Cw Tryz.prog:=mkW tab (qkb n) [] Tryz.func113 [.v (.t 0) T95,.obj (.t 1) true 137 1,.fnc (.c 0 0) 78 [.box true 136 1,.box true 41 13],.mpi (.c 1 0) true T3 T3,.v (.c 2 0) T41] 2 [[.v (.t 0) T4,.obj (.t 1) true 137 1,.fnc (.c 0 0) 78 [.box true 136 1,.box true 41 13],.mpi (.c 1 0) true T3 T3,.v (.c 2 0) T41]] (by kernel_rfl)
noncomputable def qcj(n:Nat):CL Tryz.prog:=⟨[],[qh3 n,qdR n],0,nof⟩
def qck(n:Nat):LK Tryz.prog false:=mkL tab (qcj n) [] Tryz.f152 [true,false,true,false,false] 0 n [.v (.t 0) T37,.v (.t 7) T3,.v (.t 8) T3,.fnc (.t 1) 113 [.box true 137 1],.fnc (.c 0 0) 78 [.box true 136 1,.box true 41 13],.mpi (.c 1 0) true T3 T3,.v (.c 2 0) T41] [(.exit 0,[.fnc (.t 1) 113 [.box true 137 1],.fnc (.c 0 0) 78 [.box true 136 1,.box true 41 13],.mpi (.c 1 0) true T3 T3,.v (.c 2 0) T41]),(.ret,[.v (.t 4) T3,.fnc (.t 1) 113 [.box true 137 1],.fnc (.c 0 0) 78 [.box true 136 1,.box true 41 13],.mpi (.c 1 0) true T3 T3,.v (.c 2 0) T41])] (by kernel_rfl)
def qct(n:Nat):Cw Tryz.prog:=mkW tab (qcj n) [qck n] Tryz.func152 [.v (.t 0) T37,.fnc (.t 1) 113 [.box true 137 1],.fnc (.c 0 0) 78 [.box true 136 1,.box true 41 13],.mpi (.c 1 0) true T3 T3,.v (.c 2 0) T41] 2 [[.v (.t 0) T3,.obj (.t 1) true 137 1,.fnc (.c 0 0) 78 [.box true 136 1,.box true 41 13],.mpi (.c 1 0) true T3 T3,.v (.c 2 0) T41]] (by kernel_rfl)
noncomputable def qeM(n:Nat):CL Tryz.prog:=⟨[],[qh3 n,qdR n,qct n],0,nof⟩
def qca(n:Nat):Cw Tryz.prog:=mkW tab (qeM n) [] Tryz.func112 [.v (.t 0) T37,.fnc (.t 1) 113 [.box true 137 1],.fnc (.c 0 0) 78 [.box true 136 1,.box true 41 13],.mpi (.c 1 0) true T3 T3,.v (.c 2 0) T41] 2 [[.v (.t 0) T4,.obj (.t 1) true 137 1,.fnc (.c 0 0) 78 [.box true 136 1,.box true 41 13],.mpi (.c 1 0) true T3 T3,.v (.c 2 0) T41]] (by kernel_rfl)
noncomputable def qkM(n:Nat):CL Tryz.prog:=⟨[],[qh3 n,qca n],0,nof⟩
def qgx(n:Nat):Cw Tryz.prog:=mkW tab (qkM n) [] Tryz.func84 [.v (.t 0) T37,.fnc (.t 1) 78 [.box true 136 1,.box true 41 13],.mpi (.c 0 0) true T3 T3,.v (.c 1 0) T41] 2 [[.v (.t 0) T4,.obj (.t 1) true 136 1,.obj (.t 2) true 41 13,.mpi (.c 0 0) true T3 T3,.v (.c 1 0) T41]] (by kernel_rfl)
noncomputable def qgM(n:Nat):CL Tryz.prog:=⟨[],[qcy n,qcK n],0,nof⟩
def qbY(n:Nat):Cw Tryz.prog:=mkW tab (qgM n) [] Tryz.func114 [.v (.t 0) T43,.obj (.t 1) true 138 1,.fnc (.c 0 0) 79 [.box true 99 1],.fnc (.c 1 0) 75 [.box true 41 13],.v (.c 2 0) T41] 2 [[.v (.t 0) T4,.obj (.t 1) true 138 1,.fnc (.c 0 0) 79 [.box true 99 1],.fnc (.c 1 0) 75 [.box true 41 13],.v (.c 2 0) T41]] (by kernel_rfl)
noncomputable def qbp(n:Nat):CL Tryz.prog:=⟨[],[qcy n,qcK n,qbY n],0,nof⟩
def qbq(n:Nat):LK Tryz.prog false:=mkL tab (qbp n) [] Tryz.f117 [true,false,true,false,false] 0 n [.v (.t 0) T38,.v (.t 7) T3,.v (.t 8) T3,.fnc (.t 1) 114 [.box true 138 1],.fnc (.c 0 0) 79 [.box true 99 1],.fnc (.c 1 0) 75 [.box true 41 13],.v (.c 2 0) T41] [(.exit 0,[.fnc (.t 1) 114 [.box true 138 1],.fnc (.c 0 0) 79 [.box true 99 1],.fnc (.c 1 0) 75 [.box true 41 13],.v (.c 2 0) T41]),(.ret,[.v (.t 4) T3,.fnc (.t 1) 114 [.box true 138 1],.fnc (.c 0 0) 79 [.box true 99 1],.fnc (.c 1 0) 75 [.box true 41 13],.v (.c 2 0) T41])] (by kernel_rfl)
def qM(n:Nat):Cw Tryz.prog:=mkW tab (qbp n) [qbq n] Tryz.func117 [.v (.t 0) T38,.fnc (.t 1) 114 [.box true 138 1],.fnc (.c 0 0) 79 [.box true 99 1],.fnc (.c 1 0) 75 [.box true 41 13],.v (.c 2 0) T41] 2 [[.v (.t 0) T3,.obj (.t 1) true 138 1,.fnc (.c 0 0) 79 [.box true 99 1],.fnc (.c 1 0) 75 [.box true 41 13],.v (.c 2 0) T41]] (by kernel_rfl)
noncomputable def qdn(n:Nat):CL Tryz.prog:=⟨[],[qcy n,qcK n,qbY n,qM n],0,nof⟩
def qI(n:Nat):Cw Tryz.prog:=mkW tab (qdn n) [] Tryz.func89 [.v (.t 0) T38,.fnc (.t 1) 114 [.box true 138 1],.fnc (.c 0 0) 79 [.box true 99 1],.fnc (.c 1 0) 75 [.box true 41 13],.v (.c 2 0) T41] 2 [[.v (.t 0) T4,.obj (.t 1) true 138 1,.fnc (.c 0 0) 79 [.box true 99 1],.fnc (.c 1 0) 75 [.box true 41 13],.v (.c 2 0) T41]] (by kernel_rfl)
noncomputable def qhe(n:Nat):CL Tryz.prog:=⟨[],[qcy n,qcK n,qI n],0,nof⟩
def qd1(n:Nat):Cw Tryz.prog:=mkW tab (qhe n) [] Tryz.func85 [.v (.t 0) T38,.fnc (.t 1) 79 [.box true 99 1],.fnc (.c 0 0) 75 [.box true 41 13],.v (.c 1 0) T41] 2 [[.v (.t 0) T4,.obj (.t 1) true 99 1,.fnc (.c 0 0) 75 [.box true 41 13],.v (.c 1 0) T41]] (by kernel_rfl)
noncomputable def qgR(n:Nat):CL Tryz.prog:=⟨[],[qcy n,qcL n],0,nof⟩
def qb7(n:Nat):Cw Tryz.prog:=mkW tab (qgR n) [] Tryz.func116 [.v (.t 0) T90,.obj (.t 1) true 139 1,.fnc (.c 0 0) 80 [.box true 99 1,.box true 41 13],.fnc (.c 1 0) 75 [.al 2],.v (.c 2 0) T41] 2 [[.v (.t 0) T4,.obj (.t 1) true 139 1,.fnc (.c 0 0) 80 [.box true 99 1,.box true 41 13],.fnc (.c 1 0) 75 [.al 2],.v (.c 2 0) T41]] (by kernel_rfl)
noncomputable def qbA(n:Nat):CL Tryz.prog:=⟨[],[qcy n,qcL n,qb7 n],0,nof⟩
def qbB(n:Nat):LK Tryz.prog false:=mkL tab (qbA n) [] Tryz.f153 [true,false,true,false,false] 0 n [.v (.t 0) T39,.v (.t 7) T3,.v (.t 8) T3,.fnc (.t 1) 116 [.box true 139 1],.fnc (.c 0 0) 80 [.box true 99 1,.box true 41 13],.fnc (.c 1 0) 75 [.al 2],.v (.c 2 0) T41] [(.exit 0,[.fnc (.t 1) 116 [.box true 139 1],.fnc (.c 0 0) 80 [.box true 99 1,.box true 41 13],.fnc (.c 1 0) 75 [.al 2],.v (.c 2 0) T41]),(.ret,[.v (.t 4) T3,.fnc (.t 1) 116 [.box true 139 1],.fnc (.c 0 0) 80 [.box true 99 1,.box true 41 13],.fnc (.c 1 0) 75 [.al 2],.v (.c 2 0) T41])] (by kernel_rfl)
def qbD(n:Nat):Cw Tryz.prog:=mkW tab (qbA n) [qbB n] Tryz.func153 [.v (.t 0) T39,.fnc (.t 1) 116 [.box true 139 1],.fnc (.c 0 0) 80 [.box true 99 1,.box true 41 13],.fnc (.c 1 0) 75 [.al 2],.v (.c 2 0) T41] 2 [[.v (.t 0) T3,.obj (.t 1) true 139 1,.fnc (.c 0 0) 80 [.box true 99 1,.box true 41 13],.fnc (.c 1 0) 75 [.al 2],.v (.c 2 0) T41]] (by kernel_rfl)
noncomputable def qdD(n:Nat):CL Tryz.prog:=⟨[],[qcy n,qcL n,qb7 n,qbD n],0,nof⟩
def qbr(n:Nat):Cw Tryz.prog:=mkW tab (qdD n) [] Tryz.func115 [.v (.t 0) T39,.fnc (.t 1) 116 [.box true 139 1],.fnc (.c 0 0) 80 [.box true 99 1,.box true 41 13],.fnc (.c 1 0) 75 [.al 2],.v (.c 2 0) T41] 2 [[.v (.t 0) T4,.obj (.t 1) true 139 1,.fnc (.c 0 0) 80 [.box true 99 1,.box true 41 13],.fnc (.c 1 0) 75 [.al 2],.v (.c 2 0) T41]] (by kernel_rfl)
noncomputable def qhp(n:Nat):CL Tryz.prog:=⟨[],[qcy n,qcL n,qbr n],0,nof⟩
def qd7(n:Nat):Cw Tryz.prog:=mkW tab (qhp n) [] Tryz.func86 [.v (.t 0) T39,.fnc (.t 1) 80 [.box true 99 1,.box true 41 13],.fnc (.c 0 0) 75 [.al 1],.v (.c 1 0) T41] 2 [[.v (.t 0) T4,.obj (.t 1) true 99 1,.obj (.t 2) true 41 13,.fnc (.c 0 0) 75 [.al 1],.v (.c 1 0) T41]] (by kernel_rfl)
noncomputable def qwT(n:Nat):CL Tryz.prog:=⟨[qeJ n,qp3 n,qkJ n,qg4 n],[qjL n,qh4 n,qgx n,qd1 n,qd7 n],0,nof⟩
def qs1(n:Nat):Ct Tryz.prog:=mkC tab (qwT n) [] Tryz.func56 [.d T41] [T24] (by kernel_rfl)
noncomputable def qvy(n:Nat):CL Tryz.prog:=⟨[],[],0,nof⟩
def qqZ(n:Nat):Cw Tryz.prog:=mkW tab (qvy n) [] Tryz.func57 [.v (.t 0) T77,.obj (.t 1) true 3 1,.v (.c 0 0) T3] 2 [[.v (.t 0) T4,.obj (.t 1) true 3 1,.v (.c 0 0) T3]] (by kernel_rfl)
noncomputable def qfe(n:Nat):CL Tryz.prog:=⟨[],[qqZ n],0,nof⟩
def qff(n:Nat):LK Tryz.prog false:=mkL tab (qfe n) [] Tryz.f33 [true,false,true,false,false] 0 n [.v (.t 0) T35,.v (.t 7) T3,.v (.t 8) T3,.fnc (.t 1) 57 [.box true 3 1],.v (.c 0 0) T3] [(.exit 0,[.fnc (.t 1) 57 [.box true 3 1],.v (.c 0 0) T3]),(.ret,[.v (.t 4) T3,.fnc (.t 1) 57 [.box true 3 1],.v (.c 0 0) T3])] (by kernel_rfl)
def qc1(n:Nat):Cw Tryz.prog:=mkW tab (qfe n) [qff n] Tryz.func33 [.v (.t 0) T35,.fnc (.t 1) 57 [.box true 3 1],.v (.c 0 0) T3] 2 [[.v (.t 0) T3,.obj (.t 1) true 3 1,.v (.c 0 0) T3]] (by kernel_rfl)
noncomputable def qrM(n:Nat):CL Tryz.prog:=⟨[qqW n,qs1 n],[qV n,qO n,qbc n,qc1 n],0,nof⟩
def qrN(n:Nat):LK Tryz.prog false:=mkL tab (qrM n) [] Tryz.f32 [true,true,true,true,false,true,false,false] 0 n [.v (.t 27) T22,.v (.t 28) T3,.v (.t 29) T3,.obj (.t 1) false 41 13,.v (.c 0 0) T41,.obj (.t 5) false 79 14,.v (.c 1 0) T41,.row (.c 1 13) false T77 77] [(.exit 0,[.obj (.t 5) false 79 14,.v (.c 0 0) T41,.row (.c 0 13) false T77 77])] (by kernel_rfl)
def qmw(n:Nat):Cw Tryz.prog:=mkW tab (qrM n) [qrN n] Tryz.func32 [.v (.t 0) T41] 1 [[.v (.t 1) T24,.obj (.t 0) false 79 14,.v (.c 0 0) T41,.row (.c 0 13) false T77 77],[.nilp (.t 0),.v (.t 1) T24]] (by kernel_rfl)
noncomputable def qmk(n:Nat):CL Tryz.prog:=⟨[],[],0,nof⟩
def qml(n:Nat):LK Tryz.prog false:=mkL tab (qmk n) [] Tryz.f58 [true,false,true,false,false] 0 n [.v (.t 1) T3,.v (.t 11) T37,.v (.t 12) T3,.v (.t 13) T3,.obj (.t 0) true 79 14,.v (.c 0 0) T79,.obj (.t 4) false 95 3,.v (.c 1 0) T95] [(.exit 0,[.v (.t 1) T3,.obj (.t 0) true 79 14,.v (.c 0 0) T79,.obj (.t 4) false 95 3,.v (.c 1 0) T95]),(.ret,[.obj (.t 0) true 79 14,.v (.c 0 0) T79,.obj (.t 4) false 95 3,.v (.c 1 0) T95])] (by kernel_rfl)
def qmZ(n:Nat):Cw Tryz.prog:=mkW tab (qmk n) [qml n] Tryz.func58 [.v (.t 1) T3,.obj (.t 0) true 79 14,.v (.c 0 0) T79] 2 [[.v (.t 0) T95,.obj (.t 1) true 79 14,.v (.c 0 0) T79]] (by kernel_rfl)
noncomputable def qrO(n:Nat):CL Tryz.prog:=⟨[],[],0,nof⟩
def qkc(n:Nat):Cw Tryz.prog:=mkW tab (qrO n) [] Tryz.func88 [.v (.t 1) T3,.v (.t 2) T3,.obj (.t 0) true 79 14,.v (.c 0 0) T79] 3 [[.v (.t 0) T4,.obj (.t 1) true 79 14,.v (.c 0 0) T79]] (by kernel_rfl)
noncomputable def qoR(n:Nat):CL Tryz.prog:=⟨[],[qkc n],0,nof⟩
def qfj(n:Nat):Cw Tryz.prog:=mkW tab (qoR n) [] Tryz.func90 [.v (.t 0) T43,.obj (.t 1) true 3 1,.v (.c 0 0) T3,.obj (.t 2) true 71 1,.obj (.c 1 0) true 79 14,.v (.c 2 0) T79,.obj (.t 3) true 3 1,.v (.c 3 0) T3] 4 [[.v (.t 0) T4,.obj (.t 1) true 3 1,.v (.c 0 0) T3,.obj (.t 2) true 71 1,.obj (.c 1 0) true 79 14,.v (.c 2 0) T79,.obj (.t 4) true 3 1,.v (.c 3 0) T3]] (by kernel_rfl)
noncomputable def qdL(n:Nat):CL Tryz.prog:=⟨[],[qfj n],0,nof⟩
def qdM(n:Nat):LK Tryz.prog false:=mkL tab (qdL n) [] Tryz.f117 [true,false,true,false,false] 0 n [.v (.t 0) T38,.v (.t 7) T3,.v (.t 8) T3,.fnc (.t 1) 90 [.box true 3 1,.box true 71 1,.box true 3 1],.v (.c 0 0) T3,.obj (.c 1 0) true 79 14,.v (.c 3 0) T79,.v (.c 2 0) T3] [(.exit 0,[.fnc (.t 1) 90 [.box true 3 1,.box true 71 1,.box true 3 1],.v (.c 0 0) T3,.obj (.c 1 0) true 79 14,.v (.c 3 0) T79,.v (.c 2 0) T3]),(.ret,[.v (.t 4) T3,.fnc (.t 1) 90 [.box true 3 1,.box true 71 1,.box true 3 1],.v (.c 0 0) T3,.obj (.c 1 0) true 79 14,.v (.c 3 0) T79,.v (.c 2 0) T3])] (by kernel_rfl)
def qdS(n:Nat):Cw Tryz.prog:=mkW tab (qdL n) [qdM n] Tryz.func117 [.v (.t 0) T38,.fnc (.t 1) 90 [.box true 3 1,.box true 71 1,.box true 3 1],.v (.c 0 0) T3,.obj (.c 1 0) true 79 14,.v (.c 3 0) T79,.v (.c 2 0) T3] 2 [[.v (.t 0) T3,.obj (.t 1) true 3 1,.obj (.t 2) true 71 1,.obj (.t 3) true 3 1,.v (.c 0 0) T3,.obj (.c 1 0) true 79 14,.v (.c 3 0) T79,.v (.c 2 0) T3]] (by kernel_rfl)
noncomputable def qgr(n:Nat):CL Tryz.prog:=⟨[],[qfj n,qM n,qdS n],0,nof⟩
def qdx(n:Nat):Cw Tryz.prog:=mkW tab (qgr n) [] Tryz.func89 [.v (.t 0) T38,.fnc (.t 1) 90 [.box true 3 1,.box true 71 1,.box true 3 1],.v (.c 0 0) T3,.obj (.c 1 0) true 79 14,.v (.c 3 0) T79,.v (.c 2 0) T3] 2 [[.v (.t 0) T4,.obj (.t 1) true 3 1,.obj (.t 2) true 71 1,.obj (.t 3) true 3 1,.v (.c 0 0) T3,.obj (.c 1 0) true 79 14,.v (.c 3 0) T79,.v (.c 2 0) T3]] (by kernel_rfl)
noncomputable def qpC(n:Nat):CL Tryz.prog:=⟨[],[qkc n,qI n,qdx n],0,nof⟩
def qlr(n:Nat):Cw Tryz.prog:=mkW tab (qpC n) [] Tryz.func59 [.v (.t 1) T3,.v (.t 2) T3,.obj (.t 0) true 79 14,.v (.c 0 0) T79] 3 [[.v (.t 0) T4,.obj (.t 1) true 79 14,.v (.c 0 0) T79]] (by kernel_rfl)
noncomputable def qzF(n:Nat):CL Tryz.prog:=⟨[],[],0,nof⟩
def qsK(n:Nat):Ct Tryz.prog:=mkC tab (qzF n) [] Tryz.func60 [.d T3,.d T3] [T3] (by kernel_rfl)
noncomputable def qrP(n:Nat):CL Tryz.prog:=⟨[qsK n],[qmZ n,qlr n],0,nof⟩
def qkd(n:Nat):Cw Tryz.prog:=mkW tab (qrP n) [] Tryz.func35 [.v (.t 1) T77,.v (.t 2) T84,.obj (.t 0) true 79 14,.v (.c 0 0) T79] 3 [[.v (.t 0) T3,.v (.t 1) T3,.obj (.t 2) true 79 14,.v (.c 0 0) T79]] (by kernel_rfl)
noncomputable def quM(n:Nat):CL Tryz.prog:=⟨[],[],0,nof⟩
def qp6(n:Nat):Cw Tryz.prog:=mkW tab (quM n) [] Tryz.func34 [.v (.t 0) T77,.obj (.t 1) true 3 1,.v (.c 0 0) T3] 2 [[.v (.t 0) T4,.obj (.t 1) true 3 1,.v (.c 0 0) T3]] (by kernel_rfl)
noncomputable def qe1(n:Nat):CL Tryz.prog:=⟨[],[qp6 n],0,nof⟩
def qe2(n:Nat):LK Tryz.prog false:=mkL tab (qe1 n) [] Tryz.f33 [true,false,true,false,false] 0 n [.v (.t 0) T35,.v (.t 7) T3,.v (.t 8) T3,.fnc (.t 1) 34 [.box true 3 1],.v (.c 0 0) T3] [(.exit 0,[.fnc (.t 1) 34 [.box true 3 1],.v (.c 0 0) T3]),(.ret,[.v (.t 4) T3,.fnc (.t 1) 34 [.box true 3 1],.v (.c 0 0) T3])] (by kernel_rfl)
def qfg(n:Nat):Cw Tryz.prog:=mkW tab (qe1 n) [qe2 n] Tryz.func33 [.v (.t 0) T35,.fnc (.t 1) 34 [.box true 3 1],.v (.c 0 0) T3] 2 [[.v (.t 0) T3,.obj (.t 1) true 3 1,.v (.c 0 0) T3]] (by kernel_rfl)
noncomputable def qrQ(n:Nat):CL Tryz.prog:=⟨[],[qmw n,qV n,qO n,qbc n,qc1 n,qfg n,qkd n],2,nof⟩
def qrR(n:Nat):LK Tryz.prog false:=mkL tab (qrQ n) [] Tryz.f15 [true,true,true,true,true,false,true,false,false] 0 n [.v (.t 4) T3,.v (.t 5) T3,.v (.t 8) T3,.v (.t 36) T75,.v (.t 37) T3,.v (.t 38) T3,.obj (.t 7) false 79 14,.v (.c 0 0) T79] [(.exit 0,[.v (.t 4) T3,.v (.t 5) T3])] (by kernel_rfl)
def qs2(n:Nat):Ct Tryz.prog:=mkC tab (qrQ n) [qrR n] Tryz.func15 [.d T41,.d T3] [T3,T3,T24] (by kernel_rfl)
end
noncomputable section
noncomputable def quN(n:Nat):CL Tryz.prog:=⟨[qfW n],[],0,nof⟩
def qmF(n:Nat):Cw Tryz.prog:=mkW tab (quN n) [] Tryz.func68 [.v (.t 0) T3,.v (.t 1) T3,.obj (.t 2) true 3 1,.v (.c 0 0) T3,.obj (.t 3) true 22 1,.v (.c 1 0) T22] 4 [[.v (.t 0) T3,.obj (.t 1) true 3 1,.v (.c 0 0) T3,.obj (.t 2) true 22 1,.v (.c 1 0) T22]] (by kernel_rfl)
noncomputable def qcq(n:Nat):CL Tryz.prog:=⟨[],[qmF n],0,nof⟩
def qhP(n:Nat):LK Tryz.prog false:=mkL tab (qcq n) [] Tryz.f142 [true,false,false,true,false,false,true,false,false] 1 n [.v (.t 1) T3,.v (.t 2) T3,.v (.t 8) T3,.v (.t 9) T3,.row (.t 0) true T3 3,.fnc (.t 3) 68 [.box true 3 1,.box true 22 1],.v (.c 1 0) T3,.v (.c 2 0) T22] [(.exit 2,[.v (.t 1) T3,.v (.t 2) T3,.v (.t 8) T3,.row (.t 0) true T3 3,.fnc (.t 3) 68 [.box true 3 1,.box true 22 1],.v (.c 1 0) T3,.v (.c 2 0) T22])] (by kernel_rfl)
def qhQ(n:Nat):LK Tryz.prog false:=mkL tab (qcq n) [qhP n] Tryz.f142 [true,false,false] 0 n [.v (.t 1) T3,.v (.t 2) T3,.v (.t 8) T3,.row (.t 0) true T3 3,.fnc (.t 3) 68 [.box true 3 1,.box true 22 1],.v (.c 1 0) T3,.v (.c 2 0) T22] [(.exit 0,[.row (.t 0) true T3 3,.fnc (.t 3) 68 [.box true 3 1,.box true 22 1],.v (.c 1 0) T3,.v (.c 2 0) T22])] (by kernel_rfl)
def qh5(n:Nat):Cw Tryz.prog:=mkW tab (qcq n) [qhQ n] Tryz.func142 [.v (.t 1) T3,.v (.t 2) T3,.row (.t 0) true T3 3,.fnc (.t 3) 68 [.box true 3 1,.box true 22 1],.v (.c 1 0) T3,.v (.c 2 0) T22] 4 [[.row (.t 0) true T3 3,.obj (.t 1) true 3 1,.obj (.t 2) true 22 1,.v (.c 1 0) T3,.v (.c 2 0) T22]] (by kernel_rfl)
noncomputable def qb3(n:Nat):CL Tryz.prog:=⟨[],[qmF n,qh5 n],0,nof⟩
def qjM(n:Nat):LK Tryz.prog false:=mkL tab (qb3 n) [] Tryz.f102 [true,true,false,false,false] 0 n [.v (.t 1) T3,.v (.t 6) T3,.v (.t 7) T3,.v (.t 8) T3,.row (.t 0) true T3 3,.fnc (.t 2) 68 [.box true 3 1,.box true 22 1],.v (.c 1 0) T3,.v (.c 2 0) T22] [(.exit 0,[.v (.t 1) T3,.v (.t 6) T3,.v (.t 7) T3,.row (.t 0) true T3 3,.fnc (.t 2) 68 [.box true 3 1,.box true 22 1],.v (.c 1 0) T3,.v (.c 2 0) T22])] (by kernel_rfl)
def qjN(n:Nat):LK Tryz.prog false:=mkL tab (qb3 n) [] Tryz.f102 [true,true,true,true,false,false,true,false,true,false,false,false] 2 n [.v (.t 1) T3,.v (.t 6) T3,.v (.t 7) T3,.v (.t 8) T3,.row (.t 0) true T3 3,.fnc (.t 2) 68 [.box true 3 1,.box true 22 1],.v (.c 1 0) T3,.v (.c 2 0) T22] [(.exit 4,[.v (.t 1) T3,.v (.t 6) T3,.v (.t 7) T3,.row (.t 0) true T3 3,.fnc (.t 2) 68 [.box true 3 1,.box true 22 1],.v (.c 1 0) T3,.v (.c 2 0) T22])] (by kernel_rfl)
def qjO(n:Nat):LK Tryz.prog false:=mkL tab (qb3 n) [qjN n] Tryz.f102 [true,true,true,true,false,false] 1 n [.v (.t 1) T3,.v (.t 6) T3,.row (.t 0) true T3 3,.fnc (.t 2) 68 [.box true 3 1,.box true 22 1],.v (.c 1 0) T3,.v (.c 2 0) T22] [(.exit 2,[.row (.t 0) true T3 3,.fnc (.t 2) 68 [.box true 3 1,.box true 22 1],.v (.c 1 0) T3,.v (.c 2 0) T22])] (by kernel_rfl)
def qjV(n:Nat):Cw Tryz.prog:=mkW tab (qb3 n) [qjM n,qjO n] Tryz.func102 [.v (.t 1) T3,.row (.t 0) true T3 3,.fnc (.t 2) 68 [.box true 3 1,.box true 22 1],.v (.c 1 0) T3,.v (.c 2 0) T22] 3 [[.row (.t 0) true T3 3,.obj (.t 1) true 3 1,.obj (.t 2) true 22 1,.v (.c 1 0) T3,.v (.c 2 0) T22]] (by kernel_rfl)
noncomputable def qju(n:Nat):CL Tryz.prog:=⟨[],[qmF n,qjV n],0,nof⟩
def qjP(n:Nat):Cw Tryz.prog:=mkW tab (qju n) [] Tryz.func67 [.row (.t 0) true T3 3,.fnc (.t 1) 68 [.box true 3 1,.box true 22 1],.v (.c 1 0) T3,.v (.c 2 0) T22] 2 [[.row (.t 0) true T3 3,.obj (.t 1) true 3 1,.obj (.t 2) true 22 1,.v (.c 1 0) T3,.v (.c 2 0) T22]] (by kernel_rfl)
noncomputable def qoq(n:Nat):CL Tryz.prog:=⟨[],[qjP n],0,nof⟩
def qwU(n:Nat):LK Tryz.prog false:=mkL tab (qoq n) [] Tryz.f42 [true,true,true,true,false,true,false,false] 0 n [.v (.t 7) T3,.v (.t 19) T22,.v (.t 20) T3,.v (.t 21) T3,.obj (.t 2) false 3 1,.v (.c 0 0) T3,.obj (.t 3) false 22 1,.v (.c 1 0) T22,.row (.t 5) false T3 3,.row (.t 6) false T3 3] [(.exit 0,[.v (.t 7) T3,.obj (.t 2) false 3 1,.v (.c 0 0) T3,.obj (.t 3) false 22 1,.v (.c 1 0) T22,.row (.t 5) false T3 3,.row (.t 6) false T3 3])] (by kernel_rfl)
def qwV(n:Nat):LK Tryz.prog false:=mkL tab (qoq n) [] Tryz.f42 [true,true,true,true,true,true,false,true,false,false] 1 n [.v (.t 50) T3,.v (.t 51) T3,.row (.t 5) false T3 3,.row (.t 6) false T3 3,.sub (.t 49) 1] [(.exit 2,[.row (.t 5) false T3 3])] (by kernel_rfl)
def qx2(n:Nat):Ct Tryz.prog:=mkC tab (qoq n) [qwU n,qwV n] Tryz.func42 [.d T3,.d T22] [T22] (by kernel_rfl)
noncomputable def qny(n:Nat):CL Tryz.prog:=⟨[qx2 n],[],0,nof⟩
def qsL(n:Nat):LK Tryz.prog false:=mkL tab (qny n) [] Tryz.f41 [true,false,false] 0 n [.v (.t 2) T3,.v (.t 19) T22,.v (.t 20) T3,.v (.t 21) T3,.obj (.t 3) true 71 1,.obj (.c 0 0) true 79 14,.v (.c 1 0) T79,.obj (.t 4) true 22 1,.row (.c 2 0) true T3 3] [(.exit 0,[.obj (.t 3) true 71 1,.obj (.c 0 0) true 79 14,.v (.c 1 0) T79,.obj (.t 4) true 22 1,.row (.c 2 0) true T3 3])] (by kernel_rfl)
def qs9(n:Nat):Cw Tryz.prog:=mkW tab (qny n) [qsL n] Tryz.func41 [.v (.t 0) T3,.v (.t 1) T3,.v (.t 2) T3,.obj (.t 3) true 71 1,.obj (.c 0 0) true 79 14,.v (.c 1 0) T79,.obj (.t 4) true 22 1,.row (.c 2 0) true T3 3] 5 [[.obj (.t 0) true 71 1,.obj (.c 0 0) true 79 14,.v (.c 1 0) T79,.obj (.t 2) true 22 1,.row (.c 2 0) true T3 3]] (by kernel_rfl)
noncomputable def qjw(n:Nat):CL Tryz.prog:=⟨[],[qmw n,qkd n,qs9 n],2,nof⟩
def quO(n:Nat):LK Tryz.prog false:=mkL tab (qjw n) [] Tryz.f19 [true,true,true,true,true,true,false,true,false,false,true,true,false,false,true,true,false,false] 1 n [.v (.t 6) T3,.v (.t 7) T3,.v (.t 48) T35,.v (.t 49) T3,.v (.t 50) T3,.v (.t 55) T75,.v (.t 56) T3,.v (.t 57) T3,.obj (.t 4) false 71 1,.obj (.c 0 0) false 79 14,.v (.c 1 0) T79,.obj (.t 8) false 22 1,.row (.c 2 0) false T3 3,.obj (.t 11) false 77 5,.v (.c 4 0) T77,.fnc (.t 9) 41 [.al 0,.al 2]] [(.exit 2,[.v (.t 6) T3,.v (.t 7) T3,.v (.t 48) T35,.v (.t 49) T3,.v (.t 50) T3,.obj (.t 4) false 71 1,.obj (.c 0 0) false 79 14,.v (.c 1 0) T79,.obj (.t 8) false 22 1,.row (.c 2 0) false T3 3,.fnc (.t 9) 41 [.al 0,.al 2]])] (by kernel_rfl)
def qpj(n:Nat):LK Tryz.prog false:=mkL tab (qjw n) [quO n] Tryz.f19 [true,true,true,true,true,true,false,true,false,false] 0 n [.v (.t 6) T3,.v (.t 7) T3,.v (.t 48) T35,.v (.t 49) T3,.v (.t 50) T3,.obj (.t 4) false 71 1,.obj (.c 0 0) false 79 14,.v (.c 1 0) T79,.obj (.t 8) false 22 1,.row (.c 2 0) false T3 3,.fnc (.t 9) 41 [.al 0,.al 2]] [(.exit 0,[.obj (.t 4) false 71 1,.obj (.c 0 0) false 79 14,.v (.c 1 0) T79,.obj (.t 8) false 22 1,.row (.c 2 0) false T3 3,.fnc (.t 9) 41 [.al 0,.al 2]])] (by kernel_rfl)
def qpk(n:Nat):LK Tryz.prog false:=mkL tab (qjw n) [] Tryz.f19 [true,true,true,true,true,true,true,false,true,false,false] 2 n [.v (.t 95) T39,.v (.t 96) T3,.v (.t 97) T3,.obj (.t 4) false 71 1,.obj (.c 0 0) false 79 14,.v (.c 1 0) T79,.obj (.t 8) false 22 1,.row (.c 2 0) false T3 3,.fnc (.t 9) 41 [.al 0,.al 2]] [(.exit 4,[.obj (.t 8) false 22 1,.row (.c 0 0) false T3 3])] (by kernel_rfl)
def qp7(n:Nat):Ct Tryz.prog:=mkC tab (qjw n) [qpj n,qpk n] Tryz.func19 [.d T41] [T22,T24] (by kernel_rfl)
end
noncomputable section
noncomputable def qrf(n:Nat):CL Tryz.prog:=⟨[],[],0,nof⟩
def qej(n:Nat):Ct Tryz.prog:=mkC tab (qrf n) [] Tryz.func28 [.d T3,.d T3,.d T3] [T4] (by kernel_rfl)
noncomputable def qk0(n:Nat):CL Tryz.prog:=⟨[qej n],[],0,nof⟩
def qk1(n:Nat):LK Tryz.prog false:=mkL tab (qk0 n) [] Tryz.f38 [true,true,false,true,false,false] 0 n [.v (.t 0) T22,.v (.t 3) T3,.v (.t 4) T3] [(.exit 0,[.v (.t 0) T22,.v (.t 3) T3]),(.ret,[.v (.t 2) T4])] (by kernel_rfl)
def qls(n:Nat):Ct Tryz.prog:=mkC tab (qk0 n) [qk1 n] Tryz.func38 [.d T22] [T4] (by kernel_rfl)
noncomputable def qrg(n:Nat):CL Tryz.prog:=⟨[qej n],[],0,nof⟩
def qm0(n:Nat):Ct Tryz.prog:=mkC tab (qrg n) [] Tryz.func39 [.d T41,.d T3] [T4] (by kernel_rfl)
noncomputable def qhx(n:Nat):CL Tryz.prog:=⟨[qej n],[],0,nof⟩
def qk2(n:Nat):LK Tryz.prog false:=mkL tab (qhx n) [] Tryz.f37 [true,false,true,false,false,true,false,false,true,true,true,false,false] 1 n [.v (.t 3) T3,.v (.t 5) T3,.obj (.t 1) false 41 13,.v (.c 0 0) T41,.obj (.t 4) false 95 3,.v (.c 1 0) T95] [(.exit 2,[.v (.t 3) T3,.obj (.t 1) false 41 13,.v (.c 0 0) T41]),(.ret,[.v (.t 2) T4])] (by kernel_rfl)
def qk3(n:Nat):LK Tryz.prog false:=mkL tab (qhx n) [qk2 n] Tryz.f37 [true,false,true,false,false] 0 n [.v (.t 3) T3,.obj (.t 1) false 41 13,.v (.c 0 0) T41] [(.exit 0,[.obj (.t 1) false 41 13,.v (.c 0 0) T41]),(.ret,[.v (.t 2) T4])] (by kernel_rfl)
def qlu(n:Nat):Ct Tryz.prog:=mkC tab (qhx n) [qk3 n] Tryz.func37 [.d T41] [T4] (by kernel_rfl)
noncomputable def qg5(n:Nat):CL Tryz.prog:=⟨[qej n,qnm n,qlu n,qls n,qm0 n],[],0,nof⟩
def qm1(n:Nat):LK Tryz.prog false:=mkL tab (qg5 n) [] Tryz.f16 [true,true,true,false,true,false,false] 0 n [.v (.t 4) T3,.obj (.t 1) false 41 13,.v (.c 0 0) T41] [(.exit 0,[.obj (.t 1) false 41 13,.v (.c 0 0) T41]),(.ret,[.v (.t 2) T24])] (by kernel_rfl)
def qm2(n:Nat):LK Tryz.prog false:=mkL tab (qg5 n) [] Tryz.f16 [true,true,true,true,false,true,false,false] 1 n [.v (.t 5) T3,.obj (.t 1) false 41 13,.v (.c 0 0) T41] [(.exit 2,[.obj (.t 1) false 41 13,.v (.c 0 0) T41]),(.ret,[.v (.t 2) T24])] (by kernel_rfl)
def qm3(n:Nat):LK Tryz.prog false:=mkL tab (qg5 n) [] Tryz.f16 [true,true,true,true,true,false,true,false,false] 2 n [.v (.t 6) T3,.obj (.t 1) false 41 13,.v (.c 0 0) T41] [(.exit 4,[.obj (.t 1) false 41 13,.v (.c 0 0) T41]),(.ret,[.v (.t 2) T24])] (by kernel_rfl)
def qke(n:Nat):Ct Tryz.prog:=mkC tab (qg5 n) [qm1 n,qm2 n,qm3 n] Tryz.func16 [.d T41] [T24] (by kernel_rfl)
noncomputable def qnz(n:Nat):CL Tryz.prog:=⟨[qhU n,qkK n],[],0,nof⟩
def qsM(n:Nat):LK Tryz.prog false:=mkL tab (qnz n) [] Tryz.f14 [true,true,true,true,true,true,false,true,false,false] 0 n [.v (.t 4) T3,.obj (.t 1) false 41 13,.v (.c 0 0) T41,.obj (.t 2) false 41 13,.v (.c 1 0) T41,.obj (.t 3) false 41 13,.v (.c 2 0) T34,.v (.c 2 2) T35,.v (.c 2 3) T3,.v (.c 2 4) T22,.row (.c 2 5) false T22 22,.v (.c 2 6) T37,.v (.c 2 7) T38,.v (.c 2 8) T39,.v (.c 2 9) T3,.v (.c 2 10) T3,.v (.c 2 11) T3,.v (.c 2 12) T3] [(.exit 0,[.obj (.t 1) false 41 13,.v (.c 0 0) T41,.obj (.t 2) false 41 13,.v (.c 1 0) T41,.obj (.t 3) false 41 13,.v (.c 2 0) T34,.v (.c 2 2) T35,.v (.c 2 3) T3,.v (.c 2 4) T22,.row (.c 2 5) false T22 22,.v (.c 2 6) T37,.v (.c 2 7) T38,.v (.c 2 8) T39,.v (.c 2 9) T3,.v (.c 2 10) T3,.v (.c 2 11) T3,.v (.c 2 12) T3])] (by kernel_rfl)
def qta(n:Nat):Ct Tryz.prog:=mkC tab (qnz n) [qsM n] Tryz.func14 [.d T41] [T41] (by kernel_rfl)
noncomputable def qn4(n:Nat):CL Tryz.prog:=⟨[qoO n],[],0,nof⟩
def qn5(n:Nat):LK Tryz.prog false:=mkL tab (qn4 n) [] Tryz.f29 [true,true,false,true,false,false] 0 n [.v (.t 3) T3,.obj (.t 1) false 41 13,.v (.c 0 0) T41] [(.exit 0,[]),(.ret,[.v (.t 2) T4])] (by kernel_rfl)
def qoS(n:Nat):Ct Tryz.prog:=mkC tab (qn4 n) [qn5 n] Tryz.func29 [.d T41] [T4] (by kernel_rfl)
noncomputable def qqq(n:Nat):CL Tryz.prog:=⟨[qrc n],[],0,nof⟩
def qmm(n:Nat):Ct Tryz.prog:=mkC tab (qqq n) [] Tryz.func20 [] [T41] (by kernel_rfl)
end
end Go.Proofs.YtcjcacbhkoainaaGreatDoor
/- The contract of math/bits.TrailingZeros, by hand: it reads a table that is a package variable. -/
namespace Go.Proofs.YtcjcacbhkoainaaGreatDoor
open Go Go.Proofs Go.RowKit Go.Shelf
set_option maxHeartbeats 800000
attribute [local go_sem] Oper.semAt_some
def tz(s:Nat):Nat:=if s % 2=1 then 0 else if s % 4=2 then 1 else if s % 8=4 then 2 else if s % 16=8 then 3 else if s % 32=16 then 4 else if s % 64=32 then 5 else if s % 128=64 then 6 else 7
theorem qye(s:Nat):tz s<8:=by unfold tz;repeat' split<;>try omega
def jj(k:Nat):Nat:=2 ^ k*285870213051353865 % 18446744073709551616/288230376151711744
theorem qF7(k:Nat)(hk:k<8):jj k<64:=by revert k;decide +kernel
theorem qFr(s:Nat):s<256→0<s→bits BinOp.and IntKind.u64 (s:Int) (IntKind.u64.wrap (-(s:Int)))=((2 ^ tz s:Nat):Int):=by
 revert s;decide +kernel
theorem qB4(k:Nat):k<8→IntKind.u64.wrap (((2 ^ k:Nat):Int)*285870213051353865)/288230376151711744=((jj k:Nat):Int):=by
 revert k;decide +kernel
theorem qDy(s:Nat)(hs:s<256)(h0:0<s):IntKind.u64.wrap (bits BinOp.and IntKind.u64 (s:Int) (IntKind.u64.wrap (-(s:Int)))*285870213051353865)/288230376151711744=((jj (tz s):Nat):Int):=by
 rw[qFr s hs h0];exact qB4 _ (qye s)
def qAT(w:World):Prop:=1<w.heap.size∧∀k,k<8→w.cell? ⟨1,jj k,none⟩=some (.int .u8 (k:Int))
theorem qB5(s k idx:Nat)(w:World)(hs0:((s:Int)==0)=false)
  (hE:IntKind.u64.wrap (bits BinOp.and IntKind.u64 (s:Int) (IntKind.u64.wrap (-(s:Int)))*285870213051353865)/288230376151711744=(idx:Int))
  (hj:idx<64) (hk:k<8) (hc:w.cell? ⟨1,idx,none⟩=some (.int .u8 (k:Int))) :
  Calls Tryz.prog 71 #[.int .u64 s] w fun e w'=>e = .returned (.int .i64 k)∧w=w':=by
 go_enter Tryz.func71,Tryz.ntmps71
 go_wp2_with fail
 go_ret
 exact ⟨rfl,rfl⟩
theorem qDz(s:Nat)(w:World)(hs:s<256)(h0:0<s)(ht:qAT w):Calls Tryz.prog 71 #[.int .u64 s] w fun e w'=>e = .returned (.int .i64 (tz s))∧w=w' :=
 qB5 s (tz s) (jj (tz s)) w (by simp;omega) (qDy s hs h0) (qF7 (tz s) (qye s)) (qye s) (ht.2 (tz s) (qye s))
theorem qEQ(s:Nat)(w:World)(hs:s<256)(h0:0<s)(ht:qAT w):Calls Tryz.prog 50 #[.int .u64 s] w fun e w'=>e = .returned (.int .i64 (tz s))∧w=w':=by
 have hs0:(0:Int)≤s:=by omega
 go_enter Tryz.func50,Tryz.ntmps50
 go_wp2_with (go_at_call 71;refine (qDz _ _ hs h0 ht).mono ?_;rintro e w1 ⟨rfl,rfl⟩)
 go_ret
 exact ⟨rfl,rfl⟩
theorem qB6:∀k,k<8→(1,(jj k,Value.int .u8 (k:Int)))∈gTab
 | 0,_=>List.mem_of_getElem? (i:=0) rfl
 | 1,_=>List.mem_of_getElem? (i:=1) rfl
 | 2,_=>List.mem_of_getElem? (i:=2) rfl
 | 3,_=>List.mem_of_getElem? (i:=3) rfl
 | 4,_=>List.mem_of_getElem? (i:=4) rfl
 | 5,_=>List.mem_of_getElem? (i:=5) rfl
 | 6,_=>List.mem_of_getElem? (i:=6) rfl
 | 7,_=>List.mem_of_getElem? (i:=7) rfl
 | k+8,h=>absurd h (by omega)
theorem qDA{w:World}(h:Gl w):qAT w:=⟨h.lt (qB6 0 (by decide)),fun k hk=>h _ (qB6 k hk)⟩
def tzB(x:Int):Bool:=decide (0<x)&&decide (x<256)
noncomputable def tz_M(n:Nat)(x:qgh [.d (.i .u64)]):Option (qR [.i .i64]):=cond (tzB x.1) (some ((tz (Int.toNat x.1):Int),())) none
noncomputable def tz_C(n:Nat):Ct Tryz.prog:=⟨50,[.d (.i .u64)],.ts [.i .i64],tz_M n,fun x y h=>by
 obtain ⟨z,u⟩:=x
 change Int at z
 unfold tz_M at h
 cases hc:tzB z with
 | false=>simp only[hc,cond_false] at h;cases h
 | true =>
  simp only[hc,cond_true] at h
  injection h with h
  subst h
  unfold tzB at hc
  simp only[Bool.and_eq_true,decide_eq_true_eq] at hc
  obtain ⟨s,hs⟩:=Int.eq_ofNat_of_zero_le (show 0≤z by omega)
  subst hs
  refine ⟨enters_of (c:=qt Tryz.f50) Tryz.func50 (by kernel_rfl) (by kernel_rfl),fun w S vs hG hn henc=>?_⟩
  have h0:=henc 0 (.val (.int .u64 s)) rfl
  obtain ⟨v,rfl⟩:∃v,vs = #[v]:=by
   obtain ⟨l⟩:=vs
   match l,hn with
   | [v],_=>exact ⟨v,rfl⟩
  have h1:v = .int .u64 s:=h0.val_eq
  subst h1
  refine (qEQ s w (by omega) (by omega) (qDA hG)).mono fun e w' ⟨e1,e2⟩=>?_
  subst e2
  exact ⟨Ext.refl _,_,e1,.val _⟩⟩
noncomputable section
noncomputable def qh6(n:Nat):CL Tryz.prog:=⟨[],[],0,fun _=>false⟩
noncomputable def qlv(n:Nat):Nat→St→PT (DEx×St):=fun _ _=>.fail
theorem qqr(n:Nat):qbh (qh6 n).c (qt Tryz.f45) 0=[]:=by kernel_rfl
theorem qqs:Tryz.f45.body=some (qt Tryz.f45):=by kernel_rfl
abbrev qh7:List It:=[.raw (.t 0)]
abbrev qhy:List (List It):=[[.row (.t 0) false T3 3]]
noncomputable def qgf(n:Nat)(x:qf qh7):Option (qby qhy):=runW tab (qh6 n) (qlv n) (qt Tryz.f45) qh7 1 8 [.tmp 2] qhy x
noncomputable def qqt(n:Nat):Cw Tryz.prog:=⟨45,1,qh7,1,qhy,qgf n,fun _ _ h=>qme (B:=tab) (cs:=qh6 n) (lo:=qlv n) (rs:=[.tmp 2]) Tryz.func45 (by kernel_rfl) qqs (by kernel_rfl) (by decide) (qka (qqr n) all_nil) h⟩
noncomputable def qkf(n:Nat):CL Tryz.prog:=⟨[],[],0,fun _=>false⟩
noncomputable def qnA(n:Nat):Nat→St→PT (DEx×St):=fun _ _=>.fail
theorem qtb(n:Nat):qbh (qkf n).c (qt Tryz.f45) 0=[]:=by kernel_rfl
theorem qtc:Tryz.f45.body=some (qt Tryz.f45):=by kernel_rfl
abbrev qkg:List It:=[.v (.t 0) T22]
abbrev qg6:List (List It):=[[.row (.t 0) false T3 3]]
noncomputable def qn6(n:Nat)(x:qf qkg):Option (qby qg6):=runW tab (qkf n) (qnA n) (qt Tryz.f45) qkg 1 8 [.tmp 2] qg6 x
noncomputable def qtd(n:Nat):Cw Tryz.prog:=⟨45,1,qkg,1,qg6,qn6 n,fun _ _ h=>qme (B:=tab) (cs:=qkf n) (lo:=qnA n) (rs:=[.tmp 2]) Tryz.func45 (by kernel_rfl) qtc (by kernel_rfl) (by decide) (qka (qtb n) all_nil) h⟩
end
theorem qte(n:Nat)(c:Nat):qgf n (.slice none 0 c,())=some ([],()):=by kernel_rfl
theorem qtf(n:Nat)(a:Addr)(c:Nat):qgf n (.slice (some a) 0 c,())=some ([],()):=by kernel_rfl
noncomputable def qn7(n:Nat):Cw Tryz.prog:=qAb 45 T3 qg6 (qgf n) (qn6 n) ([],()) (fun v y m0 h=>(qqt n).okk (x:=(v,())) (y:=y) h m0 (qsI m0)) (fun l y m0 h=>(qtd n).okk (x:=(l,())) (y:=y) h m0 (qsI m0)) (fun A c=>by cases A with | none=>exact qte n c | some a=>exact qtf n a c)
noncomputable def qtg(n:Nat):=(qn7 n).M
noncomputable section
noncomputable def ql2(n:Nat):CL Tryz.prog:=⟨[],[],0,nof⟩
def qqu(n:Nat):LK Tryz.prog false:=mkL tab (ql2 n) [] Tryz.f58 [true,false,true,false,false] 0 n [.v (.t 1) T3,.v (.t 11) T37,.v (.t 12) T3,.v (.t 13) T3,.obj (.t 0) true 79 14,.v (.c 0 0) T34,.v (.c 0 2) T35,.v (.c 0 3) T3,.row (.c 0 4) true T3 3,.v (.c 0 5) T36,.v (.c 0 6) T37,.v (.c 0 7) T38,.v (.c 0 8) T39,.v (.c 0 9) T3,.v (.c 0 10) T3,.v (.c 0 11) T3,.v (.c 0 12) T3,.v (.c 0 13) T35,.obj (.t 4) false 95 3,.v (.c 2 0) T95] [(.exit 0,[.v (.t 1) T3,.obj (.t 0) true 79 14,.v (.c 0 0) T34,.v (.c 0 2) T35,.v (.c 0 3) T3,.row (.c 0 4) true T3 3,.v (.c 0 5) T36,.v (.c 0 6) T37,.v (.c 0 7) T38,.v (.c 0 8) T39,.v (.c 0 9) T3,.v (.c 0 10) T3,.v (.c 0 11) T3,.v (.c 0 12) T3,.v (.c 0 13) T35,.obj (.t 4) false 95 3,.v (.c 2 0) T95]),(.ret,[.obj (.t 0) true 79 14,.v (.c 0 0) T34,.v (.c 0 2) T35,.v (.c 0 3) T3,.row (.c 0 4) true T3 3,.v (.c 0 5) T36,.v (.c 0 6) T37,.v (.c 0 7) T38,.v (.c 0 8) T39,.v (.c 0 9) T3,.v (.c 0 10) T3,.v (.c 0 11) T3,.v (.c 0 12) T3,.v (.c 0 13) T35,.obj (.t 4) false 95 3,.v (.c 2 0) T95])] (by kernel_rfl)
def qrh(n:Nat):Cw Tryz.prog:=mkW tab (ql2 n) [qqu n] Tryz.func58 [.v (.t 1) T3,.obj (.t 0) true 79 14,.v (.c 0 0) T34,.v (.c 0 2) T35,.v (.c 0 3) T3,.row (.c 0 4) true T3 3,.v (.c 0 5) T36,.v (.c 0 6) T37,.v (.c 0 7) T38,.v (.c 0 8) T39,.v (.c 0 9) T3,.v (.c 0 10) T3,.v (.c 0 11) T3,.v (.c 0 12) T3,.v (.c 0 13) T35] 2 [[.v (.t 0) T95,.obj (.t 1) true 79 14,.v (.c 0 0) T34,.v (.c 0 2) T35,.v (.c 0 3) T3,.row (.c 0 4) true T3 3,.v (.c 0 5) T36,.v (.c 0 6) T37,.v (.c 0 7) T38,.v (.c 0 8) T39,.v (.c 0 9) T3,.v (.c 0 10) T3,.v (.c 0 11) T3,.v (.c 0 12) T3,.v (.c 0 13) T35]] (by kernel_rfl)
noncomputable def qri(n:Nat):CL Tryz.prog:=⟨[],[],0,nof⟩
def qm4(n:Nat):Cw Tryz.prog:=mkW tab (qri n) [] Tryz.func88 [.v (.t 1) T3,.v (.t 2) T3,.obj (.t 0) true 79 14,.v (.c 0 0) T34,.v (.c 0 2) T35,.v (.c 0 3) T3,.row (.c 0 4) true T3 3,.v (.c 0 5) T36,.v (.c 0 6) T37,.v (.c 0 7) T38,.v (.c 0 8) T39,.v (.c 0 9) T3,.v (.c 0 10) T3,.v (.c 0 11) T3,.v (.c 0 12) T3,.v (.c 0 13) T35] 3 [[.v (.t 0) T4,.obj (.t 1) true 79 14,.v (.c 0 0) T34,.v (.c 0 2) T35,.v (.c 0 3) T3,.row (.c 0 4) true T3 3,.v (.c 0 5) T36,.v (.c 0 6) T37,.v (.c 0 7) T38,.v (.c 0 8) T39,.v (.c 0 9) T3,.v (.c 0 10) T3,.v (.c 0 11) T3,.v (.c 0 12) T3,.v (.c 0 13) T35]] (by kernel_rfl)
noncomputable def qor(n:Nat):CL Tryz.prog:=⟨[],[qm4 n],0,nof⟩
def qj1(n:Nat):Cw Tryz.prog:=mkW tab (qor n) [] Tryz.func90 [.v (.t 0) T43,.obj (.t 1) true 3 1,.v (.c 0 0) T3,.obj (.t 2) true 71 1,.obj (.c 1 0) true 79 14,.v (.c 2 0) T34,.v (.c 2 2) T35,.v (.c 2 3) T3,.row (.c 2 4) true T3 3,.v (.c 2 5) T36,.v (.c 2 6) T37,.v (.c 2 7) T38,.v (.c 2 8) T39,.v (.c 2 9) T3,.v (.c 2 10) T3,.v (.c 2 11) T3,.v (.c 2 12) T3,.v (.c 2 13) T35,.obj (.t 3) true 3 1,.v (.c 4 0) T3] 4 [[.v (.t 0) T4,.obj (.t 1) true 3 1,.v (.c 0 0) T3,.obj (.t 2) true 71 1,.obj (.c 1 0) true 79 14,.v (.c 2 0) T34,.v (.c 2 2) T35,.v (.c 2 3) T3,.row (.c 2 4) true T3 3,.v (.c 2 5) T36,.v (.c 2 6) T37,.v (.c 2 7) T38,.v (.c 2 8) T39,.v (.c 2 9) T3,.v (.c 2 10) T3,.v (.c 2 11) T3,.v (.c 2 12) T3,.v (.c 2 13) T35,.obj (.t 5) true 3 1,.v (.c 4 0) T3]] (by kernel_rfl)
noncomputable def qdE(n:Nat):CL Tryz.prog:=⟨[],[qj1 n],0,nof⟩
def qgN(n:Nat):LK Tryz.prog false:=mkL tab (qdE n) [] Tryz.f117 [true,false,true,false,false] 0 n [.v (.t 0) T38,.v (.t 7) T3,.v (.t 8) T3,.fnc (.t 1) 90 [.box true 3 1,.box true 71 1,.box true 3 1],.v (.c 0 0) T3,.obj (.c 1 0) true 79 14,.v (.c 3 0) T34,.v (.c 3 2) T35,.v (.c 3 3) T3,.row (.c 3 4) true T3 3,.v (.c 3 5) T36,.v (.c 3 6) T37,.v (.c 3 7) T38,.v (.c 3 8) T39,.v (.c 3 9) T3,.v (.c 3 10) T3,.v (.c 3 11) T3,.v (.c 3 12) T3,.v (.c 3 13) T35,.v (.c 2 0) T3] [(.exit 0,[.fnc (.t 1) 90 [.box true 3 1,.box true 71 1,.box true 3 1],.v (.c 0 0) T3,.obj (.c 1 0) true 79 14,.v (.c 3 0) T34,.v (.c 3 2) T35,.v (.c 3 3) T3,.row (.c 3 4) true T3 3,.v (.c 3 5) T36,.v (.c 3 6) T37,.v (.c 3 7) T38,.v (.c 3 8) T39,.v (.c 3 9) T3,.v (.c 3 10) T3,.v (.c 3 11) T3,.v (.c 3 12) T3,.v (.c 3 13) T35,.v (.c 2 0) T3]),(.ret,[.v (.t 4) T3,.fnc (.t 1) 90 [.box true 3 1,.box true 71 1,.box true 3 1],.v (.c 0 0) T3,.obj (.c 1 0) true 79 14,.v (.c 3 0) T34,.v (.c 3 2) T35,.v (.c 3 3) T3,.row (.c 3 4) true T3 3,.v (.c 3 5) T36,.v (.c 3 6) T37,.v (.c 3 7) T38,.v (.c 3 8) T39,.v (.c 3 9) T3,.v (.c 3 10) T3,.v (.c 3 11) T3,.v (.c 3 12) T3,.v (.c 3 13) T35,.v (.c 2 0) T3])] (by kernel_rfl)
def qgS(n:Nat):Cw Tryz.prog:=mkW tab (qdE n) [qgN n] Tryz.func117 [.v (.t 0) T38,.fnc (.t 1) 90 [.box true 3 1,.box true 71 1,.box true 3 1],.v (.c 0 0) T3,.obj (.c 1 0) true 79 14,.v (.c 3 0) T34,.v (.c 3 2) T35,.v (.c 3 3) T3,.row (.c 3 4) true T3 3,.v (.c 3 5) T36,.v (.c 3 6) T37,.v (.c 3 7) T38,.v (.c 3 8) T39,.v (.c 3 9) T3,.v (.c 3 10) T3,.v (.c 3 11) T3,.v (.c 3 12) T3,.v (.c 3 13) T35,.v (.c 2 0) T3] 2 [[.v (.t 0) T3,.obj (.t 1) true 3 1,.obj (.t 2) true 71 1,.obj (.t 3) true 3 1,.v (.c 0 0) T3,.obj (.c 1 0) true 79 14,.v (.c 3 0) T34,.v (.c 3 2) T35,.v (.c 3 3) T3,.row (.c 3 4) true T3 3,.v (.c 3 5) T36,.v (.c 3 6) T37,.v (.c 3 7) T38,.v (.c 3 8) T39,.v (.c 3 9) T3,.v (.c 3 10) T3,.v (.c 3 11) T3,.v (.c 3 12) T3,.v (.c 3 13) T35,.v (.c 2 0) T3]] (by kernel_rfl)
noncomputable def qgi(n:Nat):CL Tryz.prog:=⟨[],[qfj n,qj1 n,qgS n],0,nof⟩
def qgs(n:Nat):Cw Tryz.prog:=mkW tab (qgi n) [] Tryz.func89 [.v (.t 0) T38,.fnc (.t 1) 90 [.box true 3 1,.box true 71 1,.box true 3 1],.v (.c 0 0) T3,.obj (.c 1 0) true 79 14,.v (.c 3 0) T34,.v (.c 3 2) T35,.v (.c 3 3) T3,.row (.c 3 4) true T3 3,.v (.c 3 5) T36,.v (.c 3 6) T37,.v (.c 3 7) T38,.v (.c 3 8) T39,.v (.c 3 9) T3,.v (.c 3 10) T3,.v (.c 3 11) T3,.v (.c 3 12) T3,.v (.c 3 13) T35,.v (.c 2 0) T3] 2 [[.v (.t 0) T4,.obj (.t 1) true 3 1,.obj (.t 2) true 71 1,.obj (.t 3) true 3 1,.v (.c 0 0) T3,.obj (.c 1 0) true 79 14,.v (.c 3 0) T34,.v (.c 3 2) T35,.v (.c 3 3) T3,.row (.c 3 4) true T3 3,.v (.c 3 5) T36,.v (.c 3 6) T37,.v (.c 3 7) T38,.v (.c 3 8) T39,.v (.c 3 9) T3,.v (.c 3 10) T3,.v (.c 3 11) T3,.v (.c 3 12) T3,.v (.c 3 13) T35,.v (.c 2 0) T3]] (by kernel_rfl)
noncomputable def qpd(n:Nat):CL Tryz.prog:=⟨[],[qm4 n,qgs n],0,nof⟩
def qpD(n:Nat):Cw Tryz.prog:=mkW tab (qpd n) [] Tryz.func59 [.v (.t 1) T3,.v (.t 2) T3,.obj (.t 0) true 79 14,.v (.c 0 0) T34,.v (.c 0 2) T35,.v (.c 0 3) T3,.row (.c 0 4) true T3 3,.v (.c 0 5) T36,.v (.c 0 6) T37,.v (.c 0 7) T38,.v (.c 0 8) T39,.v (.c 0 9) T3,.v (.c 0 10) T3,.v (.c 0 11) T3,.v (.c 0 12) T3,.v (.c 0 13) T35] 3 [[.v (.t 0) T4,.obj (.t 1) true 79 14,.v (.c 0 0) T34,.v (.c 0 2) T35,.v (.c 0 3) T3,.row (.c 0 4) true T3 3,.v (.c 0 5) T36,.v (.c 0 6) T37,.v (.c 0 7) T38,.v (.c 0 8) T39,.v (.c 0 9) T3,.v (.c 0 10) T3,.v (.c 0 11) T3,.v (.c 0 12) T3,.v (.c 0 13) T35]] (by kernel_rfl)
noncomputable def qrj(n:Nat):CL Tryz.prog:=⟨[qsK n],[qrh n,qpD n],0,nof⟩
def qrS(n:Nat):Cw Tryz.prog:=mkW tab (qrj n) [] Tryz.func35 [.v (.t 1) T77,.v (.t 2) T84,.obj (.t 0) true 79 14,.v (.c 0 0) T34,.v (.c 0 2) T35,.v (.c 0 3) T3,.row (.c 0 4) true T3 3,.v (.c 0 5) T36,.v (.c 0 6) T37,.v (.c 0 7) T38,.v (.c 0 8) T39,.v (.c 0 9) T3,.v (.c 0 10) T3,.v (.c 0 11) T3,.v (.c 0 12) T3,.v (.c 0 13) T35] 3 [[.v (.t 0) T3,.v (.t 1) T3,.obj (.t 2) true 79 14,.v (.c 0 0) T34,.v (.c 0 2) T35,.v (.c 0 3) T3,.row (.c 0 4) true T3 3,.v (.c 0 5) T36,.v (.c 0 6) T37,.v (.c 0 7) T38,.v (.c 0 8) T39,.v (.c 0 9) T3,.v (.c 0 10) T3,.v (.c 0 11) T3,.v (.c 0 12) T3,.v (.c 0 13) T35]] (by kernel_rfl)
noncomputable def qlw(n:Nat):CL Tryz.prog:=⟨[],[qrS n],0,nof⟩
def qt4(n:Nat):LK Tryz.prog false:=mkL tab (qlw n) [] Tryz.f46 [true,true,true,false,true,false,false,true,true,false,false,true,true,false,false] 1 n [.v (.t 6) T3,.v (.t 24) T35,.v (.t 25) T3,.v (.t 26) T3,.v (.t 31) T75,.v (.t 32) T3,.v (.t 33) T3,.obj (.t 1) true 71 1,.obj (.c 0 0) true 79 14,.v (.c 1 0) T34,.v (.c 1 2) T35,.v (.c 1 3) T3,.row (.c 1 4) true T3 3,.v (.c 1 5) T36,.v (.c 1 6) T37,.v (.c 1 7) T38,.v (.c 1 8) T39,.v (.c 1 9) T3,.v (.c 1 10) T3,.v (.c 1 11) T3,.v (.c 1 12) T3,.v (.c 1 13) T35,.obj (.t 2) true 3 1,.v (.c 3 0) T3,.obj (.t 3) true 3 1,.v (.c 4 0) T3,.obj (.t 8) false 77 5,.v (.c 5 0) T77] [(.exit 2,[.v (.t 6) T3,.v (.t 24) T35,.v (.t 25) T3,.v (.t 26) T3,.obj (.t 1) true 71 1,.obj (.c 0 0) true 79 14,.v (.c 1 0) T34,.v (.c 1 2) T35,.v (.c 1 3) T3,.row (.c 1 4) true T3 3,.v (.c 1 5) T36,.v (.c 1 6) T37,.v (.c 1 7) T38,.v (.c 1 8) T39,.v (.c 1 9) T3,.v (.c 1 10) T3,.v (.c 1 11) T3,.v (.c 1 12) T3,.v (.c 1 13) T35,.obj (.t 2) true 3 1,.v (.c 3 0) T3,.obj (.t 3) true 3 1,.v (.c 4 0) T3])] (by kernel_rfl)
def qt5(n:Nat):LK Tryz.prog false:=mkL tab (qlw n) [qt4 n] Tryz.f46 [true,true,true,false,true,false,false] 0 n [.v (.t 6) T3,.v (.t 24) T35,.v (.t 25) T3,.v (.t 26) T3,.obj (.t 1) true 71 1,.obj (.c 0 0) true 79 14,.v (.c 1 0) T34,.v (.c 1 2) T35,.v (.c 1 3) T3,.row (.c 1 4) true T3 3,.v (.c 1 5) T36,.v (.c 1 6) T37,.v (.c 1 7) T38,.v (.c 1 8) T39,.v (.c 1 9) T3,.v (.c 1 10) T3,.v (.c 1 11) T3,.v (.c 1 12) T3,.v (.c 1 13) T35,.obj (.t 2) true 3 1,.v (.c 3 0) T3,.obj (.t 3) true 3 1,.v (.c 4 0) T3] [(.exit 0,[.v (.t 6) T3,.obj (.t 1) true 71 1,.obj (.c 0 0) true 79 14,.v (.c 1 0) T34,.v (.c 1 2) T35,.v (.c 1 3) T3,.row (.c 1 4) true T3 3,.v (.c 1 5) T36,.v (.c 1 6) T37,.v (.c 1 7) T38,.v (.c 1 8) T39,.v (.c 1 9) T3,.v (.c 1 10) T3,.v (.c 1 11) T3,.v (.c 1 12) T3,.v (.c 1 13) T35,.obj (.t 2) true 3 1,.v (.c 3 0) T3,.obj (.t 3) true 3 1,.v (.c 4 0) T3])] (by kernel_rfl)
def qpl(n:Nat):Cw Tryz.prog:=mkW tab (qlw n) [qt5 n] Tryz.func46 [.v (.t 0) T3,.obj (.t 1) true 71 1,.obj (.c 0 0) true 79 14,.v (.c 1 0) T34,.v (.c 1 2) T35,.v (.c 1 3) T3,.row (.c 1 4) true T3 3,.v (.c 1 5) T36,.v (.c 1 6) T37,.v (.c 1 7) T38,.v (.c 1 8) T39,.v (.c 1 9) T3,.v (.c 1 10) T3,.v (.c 1 11) T3,.v (.c 1 12) T3,.v (.c 1 13) T35,.obj (.t 2) true 3 1,.v (.c 3 0) T3,.obj (.t 3) true 3 1,.v (.c 4 0) T3] 4 [[.v (.t 0) T4,.obj (.t 1) true 71 1,.obj (.c 0 0) true 79 14,.v (.c 1 0) T34,.v (.c 1 2) T35,.v (.c 1 3) T3,.row (.c 1 4) true T3 3,.v (.c 1 5) T36,.v (.c 1 6) T37,.v (.c 1 7) T38,.v (.c 1 8) T39,.v (.c 1 9) T3,.v (.c 1 10) T3,.v (.c 1 11) T3,.v (.c 1 12) T3,.v (.c 1 13) T35,.obj (.t 4) true 3 1,.v (.c 3 0) T3,.obj (.t 5) true 3 1,.v (.c 4 0) T3]] (by kernel_rfl)
noncomputable def qrT(n:Nat):CL Tryz.prog:=⟨[qeJ n],[qmw n,qn7 n,qpl n],2,nof⟩
def qrU(n:Nat):LK Tryz.prog false:=mkL tab (qrT n) [] Tryz.f21 [true,true,true,true,true,true,true,true,false,false,false] 0 n [.v (.t 11) T3,.v (.t 12) T3,.obj (.t 4) false 3 1,.v (.c 0 0) T3,.obj (.t 5) false 3 1,.v (.c 1 0) T3,.obj (.t 8) false 71 1,.obj (.c 2 0) false 79 14,.v (.c 3 0) T34,.v (.c 3 2) T35,.v (.c 3 3) T3,.row (.c 3 4) false T3 3,.v (.c 3 5) T36,.v (.c 3 6) T37,.v (.c 3 7) T38,.v (.c 3 8) T39,.v (.c 3 9) T3,.v (.c 3 10) T3,.v (.c 3 11) T3,.v (.c 3 12) T3,.v (.c 3 13) T35,.fnc (.t 10) 46 [.al 2,.al 0,.al 1]] [(.exit 0,[.v (.t 12) T3])] (by kernel_rfl)
def qs3(n:Nat):Ct Tryz.prog:=mkC tab (qrT n) [qrU n] Tryz.func21 [.d T41,.d T3,.d T3] [T3,T24] (by kernel_rfl)
end
noncomputable section
noncomputable def qrV(n:Nat):CL Tryz.prog:=⟨[qeJ n],[],0,nof⟩
def qwW(n:Nat):LK Tryz.prog false:=mkL tab (qrV n) [] Tryz.f24 [true,true,true,false,true,false,false] 0 n [.v (.t 0) T22,.v (.t 4) T3,.v (.t 10) T22,.v (.t 11) T3,.v (.t 12) T3] [(.exit 0,[.v (.t 0) T22,.v (.t 4) T3]),(.ret,[.v (.t 2) T59,.v (.t 3) T24])] (by kernel_rfl)
def qx3(n:Nat):Ct Tryz.prog:=mkC tab (qrV n) [qwW n] Tryz.func24 [.d T22] [T59,T24] (by kernel_rfl)
noncomputable def qnB(n:Nat):CL Tryz.prog:=⟨[],[],0,nof⟩
def qsN(n:Nat):LK Tryz.prog false:=mkL tab (qnB n) [] Tryz.f26 [true,false,true,false,false] 0 n [.v (.t 2) T57,.v (.t 5) T59,.v (.t 6) T3,.v (.t 7) T3] [(.exit 0,[.v (.t 2) T57])] (by kernel_rfl)
def qth(n:Nat):Ct Tryz.prog:=mkC tab (qnB n) [qsN n] Tryz.func26 [.d T59] [T57] (by kernel_rfl)
noncomputable def qn8(n:Nat):CL Tryz.prog:=⟨[tz_C n],[],0,nof⟩
def qti(n:Nat):LK Tryz.prog false:=mkL tab (qn8 n) [] Tryz.f49 [true,false,false,false] 0 n [.v (.t 0) T59,.v (.t 1) T57,.v (.t 4) T3] [(.exit 0,[.v (.t 4) T3])] (by kernel_rfl)
def qt6(n:Nat):Ct Tryz.prog:=mkC tab (qn8 n) [qti n] Tryz.func49 [.d T59,.d T57] [T3] (by kernel_rfl)
abbrev qp:List It:=[.v (.t 0) T57,.obj (.t 1) true 100 1,.mpi (.c 0 0) true T57 T62,.obj (.t 2) true 59 1,.v (.c 2 0) T59,.obj (.t 3) true 63 1,.fnc (.c 3 0) 48 [.al 0,.al 2,.al 3]]
abbrev qo:List (List It):=[[.v (.t 0) T62,.obj (.t 1) true 100 1,.mpi (.c 0 0) true T57 T62,.obj (.t 3) true 59 1,.v (.c 2 0) T59,.obj (.t 4) true 63 1,.fnc (.c 3 0) 48 [.al 0,.al 2,.al 3]]]
abbrev qg:Type:={g:qf qp→Option (qby qo) // qqS Tryz.prog 48 4 qp 1 qo g}
noncomputable def qH(n:Nat)(g:qg):CL Tryz.prog:=⟨[qt6 n],[⟨48,4,qp,1,qo,g.1,g.2⟩],0,fun _=>false⟩
noncomputable def qey(n:Nat)(g:qg):Nat→St→PT (DEx×St):=fun _ _=>.fail
abbrev qW:List It:=[.v (.t 0) T57,.v (.t 8) T57,.v (.t 9) T57,.v (.t 11) T57,.obj (.t 1) true 100 1,.mpi (.c 0 0) true T57 T62,.obj (.t 2) true 59 1,.v (.c 2 0) T59,.obj (.t 3) true 63 1,.fnc (.c 3 0) 48 [.al 0,.al 2,.al 3],.row (.t 10) false T57 57]
abbrev qbw:List (DEx×List It):=[(.exit 0,[.v (.t 0) T57,.obj (.t 1) true 100 1,.mpi (.c 0 0) true T57 T62,.obj (.t 2) true 59 1,.v (.c 2 0) T59,.obj (.t 3) true 63 1,.fnc (.c 3 0) 48 [.al 0,.al 2,.al 3],.row (.t 10) false T57 57])]
noncomputable def qio(n:Nat)(g:qg)(rec:qf qW→Option (qbz qbw))(s:qf qW):Option (qbz qbw):=(qfK tab (qH n g) (qey n g) (subC [true,true,true,true,true,false,true,false,false] (qt Tryz.f48)) 1 (mkS qW 62 s)).run (Lp.leaf 62 qW qbw rec)
noncomputable def qcD(n:Nat)(g:qg):Lp:=⟨62,qW,qbw,qb n (qio n g)⟩
theorem qip(n:Nat)(g:qg):qbh (qH n g).c (subC [true,true,true,true,true,false,true,false,false] (qt Tryz.f48)) 1=[]:=by kernel_rfl
theorem qhz(n:Nat)(g:qg)(st:St)(r:DEx×St)(h:((qcD n g).go st).Is r):DA Tryz.prog false (.loop (subC [true,true,true,true,true,false,true,false,false] (qt Tryz.f48))) st r:=Lp.ok (L:=qcD n g) (B:=tab) (cs:=qH n g) (lo:=qey n g) (id:=0) rfl (qka (qip n g) all_nil) (fun _ _=>rfl) h
noncomputable def qeE(n:Nat)(g:qg):Nat→St→PT (DEx×St):=fun k st=>match k with
 | 0=>(qcD n g).go st
 | _=>.fail
theorem qix(n:Nat)(g:qg):qbh (qH n g).c (qt Tryz.f48) 0=[(0,.loop (subC [true,true,true,true,true,false,true,false,false] (qt Tryz.f48)))]:=by kernel_rfl
theorem qiy:Tryz.f48.body=some (qt Tryz.f48):=by kernel_rfl
noncomputable def qeF(n:Nat)(g:qg)(x:qf qp):Option (qby qo):=runW tab (qH n g) (qeE n g) (qt Tryz.f48) qp 4 62 [.tmp 5] qo x
theorem qiq(n:Nat)(g:qg):qqS Tryz.prog 48 4 qp 1 qo (qeF n g):=fun _ _ h=>qme (B:=tab) (cs:=qH n g) (lo:=qeE n g) (rs:=[.tmp 5]) Tryz.func48 (by kernel_rfl) qiy (by kernel_rfl) (by decide) (qka (qix n g) (all_cons (fun st r h=>qhz n g st r h) all_nil)) h
noncomputable def qbF(n:Nat):Nat→qg
 | 0=>⟨fun _=>none,fun _ _ h=>by cases h⟩
 | k+1=>⟨qeF n (qbF n k),qiq n (qbF n k)⟩
noncomputable def qiz(n:Nat)(x:qf qp):Option (qby qo):=(qbF n n).1 x
noncomputable def qiA(n:Nat):Cw Tryz.prog:=⟨48,4,qp,1,qo,qiz n,(qbF n n).2⟩
noncomputable def qrk(n:Nat):CL Tryz.prog:=⟨[],[qiA n],0,nof⟩
def qrW(n:Nat):Ct Tryz.prog:=mkC tab (qrk n) [] Tryz.func25 [.d T59,.d T57] [T62] (by kernel_rfl)
noncomputable def qwX(n:Nat):CL Tryz.prog:=⟨[qfW n],[],0,nof⟩
def qpe(n:Nat):Ct Tryz.prog:=mkC tab (qwX n) [] Tryz.func52 [.d T105,.d T105] [T3] (by kernel_rfl)
noncomputable def qbZ(n:Nat):CL Tryz.prog:=⟨[qpe n],[],0,nof⟩
def qgT(n:Nat):LK Tryz.prog false:=mkL tab (qbZ n) [] Tryz.f104 [true,false,false,true,false,false,true,false,false] 1 n [.v (.t 1) T3,.v (.t 2) T3,.fn (.t 3) 52 [] [],.v (.t 8) T3,.v (.t 9) T3,.row (.t 0) true T105 105] [(.exit 2,[.v (.t 1) T3,.v (.t 2) T3,.fn (.t 3) 52 [] [],.v (.t 8) T3,.row (.t 0) true T105 105])] (by kernel_rfl)
def qgU(n:Nat):LK Tryz.prog false:=mkL tab (qbZ n) [qgT n] Tryz.f104 [true,false,false] 0 n [.v (.t 1) T3,.v (.t 2) T3,.fn (.t 3) 52 [] [],.v (.t 8) T3,.row (.t 0) true T105 105] [(.exit 0,[.row (.t 0) true T105 105])] (by kernel_rfl)
def qhf(n:Nat):Cw Tryz.prog:=mkW tab (qbZ n) [qgU n] Tryz.func104 [.v (.t 1) T3,.v (.t 2) T3,.fn (.t 3) 52 [] [],.row (.t 0) true T105 105] 4 [[.row (.t 0) true T105 105]] (by kernel_rfl)
noncomputable def qbG(n:Nat):CL Tryz.prog:=⟨[qpe n],[qhf n],0,nof⟩
def qiB(n:Nat):LK Tryz.prog false:=mkL tab (qbG n) [] Tryz.f72 [true,true,false,false,false] 0 n [.v (.t 1) T3,.fn (.t 2) 52 [] [],.v (.t 6) T3,.v (.t 7) T3,.v (.t 8) T3,.row (.t 0) true T105 105] [(.exit 0,[.v (.t 1) T3,.fn (.t 2) 52 [] [],.v (.t 6) T3,.v (.t 7) T3,.row (.t 0) true T105 105])] (by kernel_rfl)
def qiC(n:Nat):LK Tryz.prog false:=mkL tab (qbG n) [] Tryz.f72 [true,true,true,true,false,false,true,false,true,false,false,false] 2 n [.v (.t 1) T3,.fn (.t 2) 52 [] [],.v (.t 6) T3,.v (.t 7) T3,.v (.t 8) T3,.row (.t 0) true T105 105] [(.exit 4,[.v (.t 1) T3,.fn (.t 2) 52 [] [],.v (.t 6) T3,.v (.t 7) T3,.row (.t 0) true T105 105])] (by kernel_rfl)
def qiD(n:Nat):LK Tryz.prog false:=mkL tab (qbG n) [qiC n] Tryz.f72 [true,true,true,true,false,false] 1 n [.v (.t 1) T3,.fn (.t 2) 52 [] [],.v (.t 6) T3,.row (.t 0) true T105 105] [(.exit 2,[.row (.t 0) true T105 105])] (by kernel_rfl)
def qi0(n:Nat):Cw Tryz.prog:=mkW tab (qbG n) [qiB n,qiD n] Tryz.func72 [.v (.t 1) T3,.fn (.t 2) 52 [] [],.row (.t 0) true T105 105] 3 [[.row (.t 0) true T105 105]] (by kernel_rfl)
noncomputable def qir(n:Nat):CL Tryz.prog:=⟨[qpe n],[qi0 n],0,nof⟩
def qiE(n:Nat):Cw Tryz.prog:=mkW tab (qir n) [] Tryz.func51 [.fn (.t 1) 52 [] [],.row (.t 0) true T105 105] 2 [[.row (.t 0) true T105 105]] (by kernel_rfl)
noncomputable def qoT(n:Nat):CL Tryz.prog:=⟨[],[],0,nof⟩
def qkz(n:Nat):Ct Tryz.prog:=mkC tab (qoT n) [] Tryz.func54 [.d T105] [T4] (by kernel_rfl)
noncomputable def qcR(n:Nat):CL Tryz.prog:=⟨[qkz n],[],0,nof⟩
def qf1(n:Nat):LK Tryz.prog false:=mkL tab (qcR n) [] Tryz.f73 [true,false,true,false,false] 0 n [.fn (.t 1) 54 [] [],.v (.t 7) T3,.v (.t 8) T3,.row (.t 0) true T105 105] [(.exit 0,[.row (.t 0) true T105 105]),(.ret,[.v (.t 4) T3,.row (.t 0) true T105 105])] (by kernel_rfl)
def qf8(n:Nat):Cw Tryz.prog:=mkW tab (qcR n) [qf1 n] Tryz.func73 [.fn (.t 1) 54 [] [],.row (.t 0) true T105 105] 2 [[.v (.t 0) T3,.row (.t 1) true T105 105]] (by kernel_rfl)
noncomputable def qdi(n:Nat):CL Tryz.prog:=⟨[qkz n],[qf8 n],0,nof⟩
def qgt(n:Nat):LK Tryz.prog false:=mkL tab (qdi n) [] Tryz.f53 [true,true,true,false,true,false,false] 0 n [.fn (.t 1) 54 [] [],.v (.t 5) T3,.v (.t 6) T3,.row (.t 0) true T105 105] [(.exit 0,[.v (.t 5) T3,.row (.t 0) true T105 105])] (by kernel_rfl)
def qgz(n:Nat):Cw Tryz.prog:=mkW tab (qdi n) [qgt n] Tryz.func53 [.fn (.t 1) 54 [] [],.row (.t 0) true T105 105] 2 [[.row (.t 1) true T105 105,.sub (.t 0) 0]] (by kernel_rfl)
noncomputable def qhA(n:Nat):CL Tryz.prog:=⟨[tz_C n],[qiE n,qgz n],1,nof⟩
def qpE(n:Nat):LK Tryz.prog false:=mkL tab (qhA n) [] Tryz.f27 [true,true,false,false,false] 0 n [.v (.t 0) T59,.v (.t 1) T57,.row (.t 4) false T67 67,.row (.t 5) false T105 105] [(.exit 0,[.row (.t 4) false T67 67,.row (.t 5) false T105 105])] (by kernel_rfl)
def qpF(n:Nat):LK Tryz.prog false:=mkL tab (qhA n) [] Tryz.f27 [true,true,true,false,false,false] 1 n [.row (.t 4) false T67 67,.row (.t 5) false T105 105] [(.exit 2,[.row (.t 4) false T67 67])] (by kernel_rfl)
def qp8(n:Nat):Ct Tryz.prog:=mkC tab (qhA n) [qpE n,qpF n] Tryz.func27 [.d T59,.d T57] [T27] (by kernel_rfl)
noncomputable def qq0(n:Nat):CL Tryz.prog:=⟨[qx3 n,qrW n,qth n,qp8 n],[],0,nof⟩
def qwl(n:Nat):LK Tryz.prog false:=mkL tab (qq0 n) [] Tryz.f10 [true,true,true,true,false,true,false,false] 0 n [.v (.t 4) T59,.v (.t 20) T62,.v (.t 21) T3,.v (.t 22) T3,.row (.t 6) false T67 67] [(.exit 0,[.row (.t 6) false T67 67])] (by kernel_rfl)
def qwY(n:Nat):Ct Tryz.prog:=mkC tab (qq0 n) [qwl n] Tryz.func10 [.d T22] [T27,T24] (by kernel_rfl)
noncomputable def qwm(n:Nat):CL Tryz.prog:=⟨[qwY n],[],0,nof⟩
def qrX(n:Nat):Ct Tryz.prog:=mkC tab (qwm n) [] Tryz.func8 [.d T22] [T3,T24] (by kernel_rfl)
end
noncomputable section
end
noncomputable section
noncomputable def qoU(n:Nat):CL Tryz.prog:=⟨[qej n],[],0,nof⟩
def qxL(n:Nat):LK Tryz.prog false:=mkL tab (qoU n) [] Tryz.f12 [true,true,true,false,true,false,false] 0 n [.v (.t 0) T22,.v (.t 3) T3,.v (.t 4) T3] [(.exit 0,[.v (.t 3) T3]),(.ret,[.v (.t 2) T4])] (by kernel_rfl)
noncomputable def qlx(n:Nat):CL Tryz.prog:=⟨[],[],0,nof⟩
def qp9(n:Nat):LK Tryz.prog false:=mkL tab (qlx n) [] Tryz.f22 [true,true,false,true,false,false] 0 n [.v (.t 0) T22,.v (.t 1) T22,.v (.t 5) T3] [(.exit 0,[]),(.ret,[.v (.t 4) T4])] (by kernel_rfl)
def ql3(n:Nat):Ct Tryz.prog:=mkC tab (qlx n) [qp9 n] Tryz.func22 [.d T22,.d T22] [T4] (by kernel_rfl)
noncomputable def qrY(n:Nat):CL Tryz.prog:=⟨[qrX n,qp7 n,qmm n,qs3 n,ql3 n],[],0,nof⟩
def qnC(n:Nat):Ct Tryz.prog:=mkC tab (qrY n) [] Tryz.func7 [] [T4] (by kernel_rfl)
noncomputable def qrZ(n:Nat):CL Tryz.prog:=⟨[qke n,qoS n],[],0,nof⟩
def qnD(n:Nat):Ct Tryz.prog:=mkC tab (qrZ n) [] Tryz.func13 [.d T41] [T4] (by kernel_rfl)
noncomputable def qmn(n:Nat):CL Tryz.prog:=⟨[qhU n,qkK n],[],0,nof⟩
def qmo(n:Nat):LK Tryz.prog false:=mkL tab (qmn n) [] Tryz.f14 [true,true,true,true,true,true,false,true,false,false] 0 n [.v (.t 4) T3,.obj (.t 1) false 41 13,.v (.c 0 0) T41,.obj (.t 2) false 41 13,.v (.c 1 0) T41,.obj (.t 3) false 41 13,.v (.c 2 0) T34,.v (.c 2 2) T35,.v (.c 2 3) T3,.row (.c 2 4) false T3 3,.row (.c 2 5) false T22 22,.v (.c 2 6) T37,.v (.c 2 7) T38,.v (.c 2 8) T39,.v (.c 2 9) T3,.v (.c 2 10) T3,.v (.c 2 11) T3,.v (.c 2 12) T3] [(.exit 0,[.obj (.t 1) false 41 13,.v (.c 0 0) T41,.obj (.t 2) false 41 13,.v (.c 1 0) T41,.obj (.t 3) false 41 13,.v (.c 2 0) T34,.v (.c 2 2) T35,.v (.c 2 3) T3,.row (.c 2 4) false T3 3,.row (.c 2 5) false T22 22,.v (.c 2 6) T37,.v (.c 2 7) T38,.v (.c 2 8) T39,.v (.c 2 9) T3,.v (.c 2 10) T3,.v (.c 2 11) T3,.v (.c 2 12) T3])] (by kernel_rfl)
def qm5(n:Nat):Cw Tryz.prog:=mkW tab (qmn n) [qmo n] Tryz.func14 [.v (.t 0) T41] 1 [[.ag (.t 0) 13,.v (.f 0 0) T34,.v (.f 0 2) T35,.v (.f 0 3) T3,.row (.f 0 4) false T3 3,.v (.f 0 5) T36,.v (.f 0 6) T37,.row (.f 0 7) false T43 43,.v (.f 0 8) T39,.v (.f 0 9) T3,.v (.f 0 10) T3,.v (.f 0 11) T3,.v (.f 0 12) T3]] (by kernel_rfl)
noncomputable def qoV(n:Nat):CL Tryz.prog:=⟨[qnC n,qnD n,qta n,qs2 n,qke n],[qm5 n],2,nof⟩
def qdT(n:Nat):Ct Tryz.prog:=mkC tab (qoV n) [] Tryz.func5 [.d T41,.d T45] [T4] (by kernel_rfl)
end
end Go.Proofs.YtcjcacbhkoainaaGreatDoor
