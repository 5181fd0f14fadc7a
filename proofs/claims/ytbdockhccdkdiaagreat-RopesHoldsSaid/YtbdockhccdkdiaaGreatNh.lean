/- Texts DnG, DnH, DnM in one. -/
import Derived.Test.YtbdockhccdkdiaaGreatNg
/- Printed: what functions of the program compute. -/
set_option linter.constructorNameAsVariable false
set_option linter.unusedSimpArgs false
set_option linter.unusedVariables false
set_option linter.unusedSectionVars false
namespace Go.Proofs.YtbdockhccdkdiaaGreat
open Go Go.Proofs Go.RowKit
set_option maxRecDepth 20000
noncomputable section
section
def qeK(n:Nat):CL Tryz.prog:=⟨[],[],0,fun _=>false⟩
def qgZ(n:Nat):Nat→St→PT (DEx×St):=fun _ _=>.fail
theorem qkx(n:Nat):qbt (qeK n).c (qO Tryz.f51) 0=[]:=by kernel_rfl
theorem qky:Tryz.f51.body=some (qO Tryz.f51):=by kernel_rfl
abbrev qeL:List It:=[.raw (.t 0)]
abbrev qey:List (List It):=[[.row (.t 0) false T3 3]]
def qdF(n:Nat)(x:qf qeL):Option (qbY qey):=runW tab (qeK n) (qgZ n) (qO Tryz.f51) qeL 1 8 [.tmp 2] qey x
def qkz(n:Nat):Cw Tryz.prog:=⟨51,1,qeL,1,qey,qdF n,fun _ _ h=>qpn (B:=tab) (cs:=qeK n) (lo:=qgZ n) (rs:=[.tmp 2]) Tryz.func51 (by kernel_rfl) qky (by kernel_rfl) (by decide) (qnP (qkx n) qj6) h⟩
def qgd(n:Nat):CL Tryz.prog:=⟨[],[],0,fun _=>false⟩
def qiu(n:Nat):Nat→St→PT (DEx×St):=fun _ _=>.fail
theorem qmG(n:Nat):qbt (qgd n).c (qO Tryz.f51) 0=[]:=by kernel_rfl
theorem qmH:Tryz.f51.body=some (qO Tryz.f51):=by kernel_rfl
abbrev qge:List It:=[.v (.t 0) T23]
abbrev qef:List (List It):=[[.row (.t 0) false T3 3]]
def qeQ(n:Nat)(x:qf qge):Option (qbY qef):=runW tab (qgd n) (qiu n) (qO Tryz.f51) qge 1 8 [.tmp 2] qef x
def qmI(n:Nat):Cw Tryz.prog:=⟨51,1,qge,1,qef,qeQ n,fun _ _ h=>qpn (B:=tab) (cs:=qgd n) (lo:=qiu n) (rs:=[.tmp 2]) Tryz.func51 (by kernel_rfl) qmH (by kernel_rfl) (by decide) (qnP (qmG n) qj6) h⟩
end
theorem qmJ(n:Nat)(c:Nat):qdF n (.slice none 0 c,())=some ([],()):=by kernel_rfl
theorem qmK(n:Nat)(a:Addr)(c:Nat):qdF n (.slice (some a) 0 c,())=some ([],()):=by kernel_rfl
def qiN(n:Nat):Cw Tryz.prog:=qwM 51 T3 qef (qdF n) (qeQ n) ([],()) (fun v y m0 h=>(qkz n).okk (x:=(v,())) (y:=y) h m0 (qrP m0)) (fun l y m0 h=>(qmI n).okk (x:=(l,())) (y:=y) h m0 (qrP m0)) (fun A c=>by cases A with | none=>exact qmJ n c | some a=>exact qmK n a c)
def qmL(n:Nat):=(qiN n).M
section
def qnp(n:Nat):CL Tryz.prog:=⟨[],[],0,nof⟩
def qjJ(n:Nat):Ct Tryz.prog:=mkC tab (qnp n) [] Tryz.func100 [.d T136] [T3] (by kernel_rfl)
def qoJ(n:Nat):CL Tryz.prog:=⟨[qjJ n],[],0,nof⟩
def qk0(n:Nat):Ct Tryz.prog:=mkC tab (qoJ n) [] Tryz.func73 [.d T44] [T3] (by kernel_rfl)
def qcv(n:Nat):CL Tryz.prog:=⟨[qi2 n],[],0,nof⟩
def qeg(n:Nat):LK Tryz.prog false:=mkL tab (qcv n) [] Tryz.f90 [true,false,false,true,false,false,true,false,false] 1 n [.v (.t 1) T3,.v (.t 2) T3,.v (.t 6) T3,.v (.t 7) T3,.row (.t 0) true T3 3] [(.exit 2,[.v (.t 1) T3,.v (.t 2) T3,.v (.t 6) T3,.row (.t 0) true T3 3])] (by kernel_rfl)
def qeh(n:Nat):LK Tryz.prog false:=mkL tab (qcv n) [qeg n] Tryz.f90 [true,false,false] 0 n [.v (.t 1) T3,.v (.t 2) T3,.v (.t 6) T3,.row (.t 0) true T3 3] [(.exit 0,[.row (.t 0) true T3 3])] (by kernel_rfl)
def qer(n:Nat):Cw Tryz.prog:=mkW tab (qcv n) [qeh n] Tryz.func90 [.v (.t 1) T3,.v (.t 2) T3,.row (.t 0) true T3 3] 3 [[.row (.t 0) true T3 3]] (by kernel_rfl)
abbrev qC:List It:=[.v (.t 1) T3,.v (.t 2) T3,.v (.t 3) T3,.row (.t 0) true T3 3]
abbrev qB:List (List It):=[[.row (.t 0) true T3 3]]
abbrev qk:Type:={g:qf qC→Option (qbY qB) // qwh Tryz.prog 72 4 qC 0 qB g}
def qbg(n:Nat)(g:qk):CL Tryz.prog:=⟨[qi2 n],[qer n,⟨72,4,qC,0,qB,g.1,g.2⟩],0,fun _=>false⟩
def qfa(n:Nat)(g:qk):Nat→St→PT (DEx×St):=fun _ _=>.fail
abbrev qbO:List It:=[.v (.t 1) T3,.v (.t 2) T3,.v (.t 3) T3,.v (.t 8) T4,.v (.t 9) T4,.row (.t 0) true T3 3]
abbrev qcp:List (DEx×List It):=[(.ret,[.row (.t 0) true T3 3])]
def qfr(n:Nat)(g:qk)(rec:qf qbO→Option (qbl qcp))(s:qf qbO):Option (qbl qcp):=(qea tab (qbg n g) (qfa n g) (subC [true,true,false,false] (qO Tryz.f72)) 1 (mkS qbO 134 s)).run (Lp.leaf 134 qbO qcp rec)
def qdB(n:Nat)(g:qk):Lp:=⟨134,qbO,qcp,qn n (qfr n g)⟩
theorem qiI(n:Nat)(g:qk):qbt (qbg n g).c (subC [true,true,false,false] (qO Tryz.f72)) 1=[]:=by kernel_rfl
theorem qhK(n:Nat)(g:qk)(st:St)(r:DEx×St)(h:((qdB n g).go st).Is r):DA Tryz.prog false (.loop (subC [true,true,false,false] (qO Tryz.f72))) st r:=Lp.ok (L:=qdB n g) (B:=tab) (cs:=qbg n g) (lo:=qfa n g) (id:=0) rfl (qnP (qiI n g) qj6) (fun _ _=>rfl) h
def qfs(n:Nat)(g:qk):Nat→St→PT (DEx×St):=fun k st=>match k with
 | 0=>(qdB n g).go st
 | _=>.fail
theorem qi8(n:Nat)(g:qk):qbt (qbg n g).c (qO Tryz.f72) 0=[(0,.loop (subC [true,true,false,false] (qO Tryz.f72)))]:=by kernel_rfl
theorem qi9:Tryz.f72.body=some (qO Tryz.f72):=by kernel_rfl
def qdC(n:Nat)(g:qk)(x:qf qC):Option (qbY qB):=runW tab (qbg n g) (qfs n g) (qO Tryz.f72) qC 4 134 [] qB x
theorem qiJ(n:Nat)(g:qk):qwh Tryz.prog 72 4 qC 0 qB (qdC n g):=fun _ _ h=>qpn (B:=tab) (cs:=qbg n g) (lo:=qfs n g) (rs:=[]) Tryz.func72 (by kernel_rfl) qi9 (by kernel_rfl) (by decide) (qnP (qi8 n g) (all_cons (fun st r h=>qhK n g st r h) qj6)) h
def qS(n:Nat):Nat→qk
 | 0=>⟨fun _=>none,fun _ _ h=>by cases h⟩
 | k+1=>⟨qdC n (qS n k),qiJ n (qS n k)⟩
def qfR(n:Nat)(x:qf qC):Option (qbY qB):=(qS n n).1 x
def qja(n:Nat):Cw Tryz.prog:=⟨72,4,qC,0,qB,qfR n,(qS n n).2⟩
def qmM(n:Nat):CL Tryz.prog:=⟨[qk0 n],[qja n],0,nof⟩
def qjw(n:Nat):Cw Tryz.prog:=mkW tab (qmM n) [] Tryz.func52 [.row (.t 0) true T3 3] 1 [[.row (.t 0) true T3 3]] (by kernel_rfl)
def qht(n:Nat):CL Tryz.prog:=⟨[],[],0,nof⟩
def qlb(n:Nat):LK Tryz.prog false:=mkL tab (qht n) [] Tryz.f53 [true,false,false] 0 n [.v (.t 2) T3,.v (.t 3) T3,.row (.t 0) true T3 3] [(.exit 0,[.row (.t 0) true T3 3])] (by kernel_rfl)
def qh0(n:Nat):Cw Tryz.prog:=mkW tab (qht n) [qlb n] Tryz.func53 [.row (.t 0) true T3 3] 1 [[.row (.t 0) true T3 3]] (by kernel_rfl)
def qlG(n:Nat):CL Tryz.prog:=⟨[],[qiN n,qjw n,qh0 n],1,nof⟩
def qlH(n:Nat):LK Tryz.prog false:=mkL tab (qlG n) [] Tryz.f27 [true,true,true,true,false,true,false,false] 0 n [.v (.t 1) T3,.v (.t 14) T23,.v (.t 15) T3,.v (.t 16) T3] [(.exit 0,[]),(.ret,[.v (.t 4) T4])] (by kernel_rfl)
def qjF(n:Nat):Ct Tryz.prog:=mkC tab (qlG n) [qlH n] Tryz.func27 [.d T23,.d T3] [T4] (by kernel_rfl)
def qrW(n:Nat):CL Tryz.prog:=⟨[],[],0,nof⟩
def qof(n:Nat):Ct Tryz.prog:=mkC tab (qrW n) [] Tryz.func29 [.d T25] [T3] (by kernel_rfl)
def qqT(n:Nat):CL Tryz.prog:=⟨[],[],0,nof⟩
def qnq(n:Nat):Ct Tryz.prog:=mkC tab (qqT n) [] Tryz.func30 [.d T25] [T3] (by kernel_rfl)
def qfS(n:Nat):CL Tryz.prog:=⟨[qof n],[],0,nof⟩
def qfT(n:Nat):LK Tryz.prog false:=mkL tab (qfS n) [] Tryz.f28 [true,true,false,true,false,false] 0 n [.fn (.t 1) 29 [] [],.v (.t 8) T22,.v (.t 9) T3,.v (.t 10) T3,.row (.t 5) false T3 3] [(.exit 0,[.row (.t 5) false T3 3])] (by kernel_rfl)
def qcF(n:Nat):Ct Tryz.prog:=mkC tab (qfS n) [qfT n] Tryz.func28 [.d T22,.fn 29 [] []] [T23] (by kernel_rfl)
def qft(n:Nat):CL Tryz.prog:=⟨[qnq n],[],0,nof⟩
def qfu(n:Nat):LK Tryz.prog false:=mkL tab (qft n) [] Tryz.f28 [true,true,false,true,false,false] 0 n [.fn (.t 1) 30 [] [],.v (.t 8) T22,.v (.t 9) T3,.v (.t 10) T3,.row (.t 5) false T3 3] [(.exit 0,[.row (.t 5) false T3 3])] (by kernel_rfl)
def qcw(n:Nat):Ct Tryz.prog:=mkC tab (qft n) [qfu n] Tryz.func28 [.d T22,.fn 30 [] []] [T23] (by kernel_rfl)
def qlc(n:Nat):CL Tryz.prog:=⟨[qgA n],[],0,nof⟩
def qc3(n:Nat):Ct Tryz.prog:=mkC tab (qlc n) [] Tryz.func49 [.d T25] [T4] (by kernel_rfl)
def qfy(n:Nat):CL Tryz.prog:=⟨[qc3 n],[],0,nof⟩
def qbW(n:Nat):Cw Tryz.prog:=mkW tab (qfy n) [] Tryz.func71 [.v (.t 0) T25,.obj (.t 1) true 98 1,.fnc (.c 0 0) 49 []] 2 [[.v (.t 0) T4,.obj (.t 1) true 98 1,.fnc (.c 0 0) 49 []]] (by kernel_rfl)
def qbc(n:Nat):CL Tryz.prog:=⟨[qc3 n],[qbW n],0,nof⟩
def qbd(n:Nat):LK Tryz.prog false:=mkL tab (qbc n) [] Tryz.f89 [true,false,true,false,false] 0 n [.v (.t 0) T22,.v (.t 7) T3,.v (.t 8) T3,.fnc (.t 1) 71 [.box true 98 1],.fnc (.c 0 0) 49 []] [(.exit 0,[.fnc (.t 1) 71 [.box true 98 1],.fnc (.c 0 0) 49 []]),(.ret,[.v (.t 4) T3,.fnc (.t 1) 71 [.box true 98 1],.fnc (.c 0 0) 49 []])] (by kernel_rfl)
def qbi(n:Nat):Cw Tryz.prog:=mkW tab (qbc n) [qbd n] Tryz.func89 [.v (.t 0) T22,.fnc (.t 1) 71 [.box true 98 1],.fnc (.c 0 0) 49 []] 2 [[.v (.t 0) T3,.obj (.t 1) true 98 1,.fnc (.c 0 0) 49 []]] (by kernel_rfl)
def qcs(n:Nat):CL Tryz.prog:=⟨[qc3 n],[qbW n,qbi n],0,nof⟩
def qY(n:Nat):Cw Tryz.prog:=mkW tab (qcs n) [] Tryz.func70 [.v (.t 0) T22,.fnc (.t 1) 71 [.box true 98 1],.fnc (.c 0 0) 49 []] 2 [[.v (.t 0) T4,.obj (.t 1) true 98 1,.fnc (.c 0 0) 49 []]] (by kernel_rfl)
def qfX(n:Nat):CL Tryz.prog:=⟨[qc3 n],[qY n],0,nof⟩
def qdl(n:Nat):Cw Tryz.prog:=mkW tab (qfX n) [] Tryz.func48 [.v (.t 0) T22,.fn (.t 1) 49 [] []] 2 [[.v (.t 0) T4]] (by kernel_rfl)
def qmo(n:Nat):CL Tryz.prog:=⟨[],[qdl n],0,nof⟩
def qeR(n:Nat):Ct Tryz.prog:=mkC tab (qmo n) [] Tryz.func25 [.d T22,.d T4] [T28] (by kernel_rfl)
def qp1(n:Nat):CL Tryz.prog:=⟨[qeR n,qbm n,qjF n,qcF n,qcw n],[],0,nof⟩
def qmz(n:Nat):Ct Tryz.prog:=mkC tab (qp1 n) [] Tryz.func8 [.d T22,.d T3] [T4,T4,T28] (by kernel_rfl)
def qlI(n:Nat):CL Tryz.prog:=⟨[qjF n,qe7 n],[],0,nof⟩
def qlJ(n:Nat):LK Tryz.prog false:=mkL tab (qlI n) [] Tryz.f33 [true,true,false,true,false,false] 0 n [.v (.t 0) T23,.v (.t 1) T3,.v (.t 5) T3,.v (.t 12) T3,.v (.t 13) T3] [(.exit 0,[.v (.t 5) T3])] (by kernel_rfl)
def qjG(n:Nat):Ct Tryz.prog:=mkC tab (qlI n) [qlJ n] Tryz.func33 [.d T23,.d T3] [T3] (by kernel_rfl)
def qp2(n:Nat):CL Tryz.prog:=⟨[qeR n,qbm n,qcF n,qcw n,qjG n],[],0,nof⟩
def qmA(n:Nat):Ct Tryz.prog:=mkC tab (qp2 n) [] Tryz.func12 [.d T22,.d T3] [T3,T28] (by kernel_rfl)
def qhh(n:Nat):CL Tryz.prog:=⟨[],[],0,nof⟩
def qhi(n:Nat):LK Tryz.prog false:=mkL tab (qhh n) [] Tryz.f37 [true,false,true,false,false] 0 n [.v (.t 1) T3,.v (.t 7) T22,.v (.t 8) T3,.v (.t 9) T3,.row (.t 4) false T25 25] [(.exit 0,[.row (.t 4) false T25 25])] (by kernel_rfl)
def qhu(n:Nat):Ct Tryz.prog:=mkC tab (qhh n) [qhi n] Tryz.func37 [.d T22,.d T3] [T22] (by kernel_rfl)
def qnr(n:Nat):CL Tryz.prog:=⟨[qcF n,qcw n,qjG n,qhu n],[],0,nof⟩
def qjK(n:Nat):Cw Tryz.prog:=mkW tab (qnr n) [] Tryz.func36 [.v (.t 0) T3,.obj (.t 1) true 22 1,.v (.c 0 0) T22,.obj (.t 2) true 3 1,.v (.c 1 0) T3,.obj (.t 3) true 3 1,.v (.c 2 0) T3] 4 [[.v (.t 0) T4,.obj (.t 1) true 22 1,.v (.c 0 0) T22,.obj (.t 2) true 3 1,.v (.c 1 0) T3,.obj (.t 3) true 3 1,.v (.c 2 0) T3]] (by kernel_rfl)
def qda(n:Nat):CL Tryz.prog:=⟨[qe7 n,qf6 n],[qjK n],0,nof⟩
def qeW(n:Nat):LK Tryz.prog false:=mkL tab (qda n) [] Tryz.f35 [true,true,false,true,false,false] 0 n [.v (.t 0) T3,.v (.t 15) T3,.v (.t 16) T3,.fnc (.t 1) 36 [.box true 22 1,.box true 3 1,.box true 3 1],.v (.c 0 0) T22,.v (.c 1 0) T3,.v (.c 2 0) T3,.row (.t 6) false T3 3] [(.exit 0,[.v (.t 0) T3,.fnc (.t 1) 36 [.box true 22 1,.box true 3 1,.box true 3 1],.v (.c 0 0) T22,.v (.c 1 0) T3,.v (.c 2 0) T3,.row (.t 6) false T3 3])] (by kernel_rfl)
def qeX(n:Nat):LK Tryz.prog false:=mkL tab (qda n) [] Tryz.f35 [true,true,true,true,true,false,true,false,false] 1 n [.v (.t 6) T23,.v (.t 8) T23,.v (.t 9) T4,.v (.t 25) T3,.v (.t 26) T3,.fnc (.t 1) 36 [.box true 22 1,.box true 3 1,.box true 3 1],.v (.c 0 0) T22,.v (.c 1 0) T3,.v (.c 2 0) T3] [(.exit 2,[.v (.t 8) T23,.v (.t 9) T4,.fnc (.t 1) 36 [.box true 22 1,.box true 3 1,.box true 3 1],.v (.c 0 0) T22,.v (.c 1 0) T3,.v (.c 2 0) T3])] (by kernel_rfl)
def qfb(n:Nat):Cw Tryz.prog:=mkW tab (qda n) [qeW n,qeX n] Tryz.func35 [.v (.t 0) T3,.fnc (.t 1) 36 [.box true 22 1,.box true 3 1,.box true 3 1],.v (.c 0 0) T22,.v (.c 1 0) T3,.v (.c 2 0) T3] 2 [[.v (.t 0) T23,.v (.t 1) T4,.obj (.t 2) true 22 1,.obj (.t 3) true 3 1,.obj (.t 4) true 3 1,.v (.c 0 0) T22,.v (.c 1 0) T3,.v (.c 2 0) T3]] (by kernel_rfl)
def qpy(n:Nat):CL Tryz.prog:=⟨[qeR n,qbm n],[qfI n,qfb n],0,nof⟩
def qlK(n:Nat):Ct Tryz.prog:=mkC tab (qpy n) [] Tryz.func14 [.d T22,.d T3,.d T3] [T23,T28] (by kernel_rfl)
end
end
end Go.Proofs.YtbdockhccdkdiaaGreat
