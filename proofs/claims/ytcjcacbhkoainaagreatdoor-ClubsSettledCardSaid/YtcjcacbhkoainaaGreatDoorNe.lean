/- Texts DnA, DnB, DnC, DnD, DnF, DnG, DnH, DnI, DnE, DnJ in one. -/
import Derived.Test.YtcjcacbhkoainaaGreatDoorDnT
import Derived.Test.YtcjcacbhkoainaaGreatDoorNd
import Derived.Test.YtcjcacbhkoainaaGreatDoorKc
/- Printed: what functions of the program compute. -/
set_option linter.constructorNameAsVariable false
set_option linter.unusedSimpArgs false
set_option linter.unusedVariables false
set_option linter.unusedSectionVars false
namespace Go.Proofs.YtcjcacbhkoainaaGreatDoor
open Go Go.Proofs Go.RowKit
set_option maxRecDepth 20000
noncomputable section
section
end
section
def qqi(n:Nat):CL Tryz.prog:=⟨[],[],0,nof⟩
def qjr(n:Nat):Ct Tryz.prog:=mkC tab (qqi n) [] Tryz.func103 [.d T3] [T4] (by kernel_rfl)
def qq5(n:Nat):CL Tryz.prog:=⟨[qjr n],[],0,nof⟩
def qm3(n:Nat):Ct Tryz.prog:=mkC tab (qq5 n) [] Tryz.func137 [.d T3,.d T3] [T4] (by kernel_rfl)
def qoQ(n:Nat):CL Tryz.prog:=⟨[qjr n],[],0,nof⟩
def qdS(n:Nat):Ct Tryz.prog:=mkC tab (qoQ n) [] Tryz.func69 [.d T3,.d T3] [T3] (by kernel_rfl)
def qoR(n:Nat):CL Tryz.prog:=⟨[],[],0,nof⟩
def qtr(n:Nat):LK Tryz.prog false:=mkL tab (qoR n) [] Tryz.f65 [true,true,false,true,false,false] 0 n [.v (.t 6) T35,.v (.t 7) T3,.v (.t 8) T3,.row (.t 3) false T3 3] [(.exit 0,[.row (.t 3) false T3 3])] (by kernel_rfl)
def qt0(n:Nat):Cw Tryz.prog:=mkW tab (qoR n) [qtr n] Tryz.func65 [.v (.t 0) T35] 1 [[.row (.t 0) false T3 3]] (by kernel_rfl)
def qcW(n:Nat):CL Tryz.prog:=⟨[qm3 n],[],0,nof⟩
def qir(n:Nat):LK Tryz.prog false:=mkL tab (qcW n) [] Tryz.f131 [true,false,false,true,false,false,true,false,false] 1 n [.v (.t 1) T3,.v (.t 2) T3,.v (.t 6) T3,.v (.t 7) T3,.row (.t 0) true T3 3] [(.exit 2,[.v (.t 1) T3,.v (.t 2) T3,.v (.t 6) T3,.row (.t 0) true T3 3])] (by kernel_rfl)
def qis(n:Nat):LK Tryz.prog false:=mkL tab (qcW n) [qir n] Tryz.f131 [true,false,false] 0 n [.v (.t 1) T3,.v (.t 2) T3,.v (.t 6) T3,.row (.t 0) true T3 3] [(.exit 0,[.row (.t 0) true T3 3])] (by kernel_rfl)
def qiI(n:Nat):Cw Tryz.prog:=mkW tab (qcW n) [qis n] Tryz.func131 [.v (.t 1) T3,.v (.t 2) T3,.row (.t 0) true T3 3] 3 [[.row (.t 0) true T3 3]] (by kernel_rfl)
def qoS(n:Nat):CL Tryz.prog:=⟨[],[],0,nof⟩
def qpy(n:Nat):Ct Tryz.prog:=mkC tab (qoS n) [] Tryz.func141 [.d T133] [T3] (by kernel_rfl)
def qqj(n:Nat):CL Tryz.prog:=⟨[qpy n],[],0,nof⟩
def qjs(n:Nat):Ct Tryz.prog:=mkC tab (qqj n) [] Tryz.func101 [.d T57] [T3] (by kernel_rfl)
def qq6(n:Nat):CL Tryz.prog:=⟨[],[],0,nof⟩
def qfl(n:Nat):Ct Tryz.prog:=mkC tab (qq6 n) [] Tryz.func119 [.d T3,.d T3,.d T3] [T4] (by kernel_rfl)
def qpz(n:Nat):CL Tryz.prog:=⟨[qfl n],[],0,nof⟩
def qlL(n:Nat):Ct Tryz.prog:=mkC tab (qpz n) [] Tryz.func96 [.d T122,.d T3] [T4] (by kernel_rfl)
def qoe(n:Nat):CL Tryz.prog:=⟨[qfl n],[],0,nof⟩
def qkD(n:Nat):Ct Tryz.prog:=mkC tab (qoe n) [] Tryz.func97 [.d T122,.d T3] [T4] (by kernel_rfl)
def qjT(n:Nat):CL Tryz.prog:=⟨[qlL n,qkD n,qfl n],[],0,nof⟩
def qof(n:Nat):LK Tryz.prog false:=mkL tab (qjT n) [] Tryz.f169 [true,true,false,true,false,false] 0 n [.v (.t 5) T3,.v (.t 8) T75,.v (.t 9) T3,.v (.t 10) T3,.obj (.t 2) false 122 2,.v (.c 0 0) T122] [(.exit 0,[]),(.ret,[.v (.t 4) T4])] (by kernel_rfl)
def qoT(n:Nat):Ct Tryz.prog:=mkC tab (qjT n) [qof n] Tryz.func169 [.d T122,.d T75] [T4] (by kernel_rfl)
def qm4(n:Nat):CL Tryz.prog:=⟨[qfl n,qoT n],[],0,nof⟩
def qnU(n:Nat):Ct Tryz.prog:=mkC tab (qm4 n) [] Tryz.func148 [.d T122,.d T77] [T4] (by kernel_rfl)
def qn6(n:Nat):CL Tryz.prog:=⟨[],[],0,nof⟩
def qsu(n:Nat):LK Tryz.prog false:=mkL tab (qn6 n) [] Tryz.f130 [true,true,false,true,false,false] 0 n [.v (.t 3) T3,.v (.t 6) T22,.v (.t 7) T3,.v (.t 8) T3] [(.exit 0,[.v (.t 3) T3]),(.ret,[.v (.t 2) T3])] (by kernel_rfl)
def qlM(n:Nat):Ct Tryz.prog:=mkC tab (qn6 n) [qsu n] Tryz.func130 [.d T22] [T3] (by kernel_rfl)
def qn7(n:Nat):CL Tryz.prog:=⟨[],[],0,nof⟩
def qsv(n:Nat):LK Tryz.prog false:=mkL tab (qn7 n) [] Tryz.f149 [true,false,true,false,false] 0 n [.v (.t 0) T35,.v (.t 5) T35,.v (.t 6) T3,.v (.t 7) T3] [(.exit 0,[]),(.ret,[.v (.t 2) T4])] (by kernel_rfl)
def qts(n:Nat):Ct Tryz.prog:=mkC tab (qn7 n) [qsv n] Tryz.func149 [.d T35] [T4] (by kernel_rfl)
def qlV(n:Nat):CL Tryz.prog:=⟨[],[],0,nof⟩
def qmw(n:Nat):Ct Tryz.prog:=mkC tab (qlV n) [] Tryz.func43 [] [T34,T35] (by kernel_rfl)
end
section
def qq7(n:Nat):CL Tryz.prog:=⟨[qdS n,qlM n],[],0,nof⟩
def qkb(n:Nat):Ct Tryz.prog:=mkC tab (qq7 n) [] Tryz.func129 [.d T77,.d T77] [T3] (by kernel_rfl)
def qoU(n:Nat):CL Tryz.prog:=⟨[],[],0,nof⟩
def qk5(n:Nat):Cw Tryz.prog:=mkW tab (qoU n) [] Tryz.func127 [.v (.t 0) T77,.obj (.t 1) true 77 5,.v (.c 0 0) T77] 2 [[.v (.t 0) T4,.obj (.t 1) true 77 5,.v (.c 0 0) T77]] (by kernel_rfl)
def qc0(n:Nat):CL Tryz.prog:=⟨[],[qk5 n],0,nof⟩
def qf3(n:Nat):LK Tryz.prog false:=mkL tab (qc0 n) [] Tryz.f33 [true,false,true,false,false] 0 n [.v (.t 0) T35,.v (.t 7) T3,.v (.t 8) T3,.fnc (.t 1) 127 [.box true 77 5],.v (.c 0 0) T77] [(.exit 0,[.fnc (.t 1) 127 [.box true 77 5],.v (.c 0 0) T77]),(.ret,[.v (.t 4) T3,.fnc (.t 1) 127 [.box true 77 5],.v (.c 0 0) T77])] (by kernel_rfl)
def qbj(n:Nat):Cw Tryz.prog:=mkW tab (qc0 n) [qf3 n] Tryz.func33 [.v (.t 0) T35,.fnc (.t 1) 127 [.box true 77 5],.v (.c 0 0) T77] 2 [[.v (.t 0) T3,.obj (.t 1) true 77 5,.v (.c 0 0) T77]] (by kernel_rfl)
def qfm(n:Nat):CL Tryz.prog:=⟨[],[qbj n,qk5 n],0,nof⟩
def qcL(n:Nat):Cw Tryz.prog:=mkW tab (qfm n) [] Tryz.func126 [.v (.t 0) T35,.fnc (.t 1) 127 [.box true 77 5],.v (.c 0 0) T77] 2 [[.v (.t 0) T4,.obj (.t 1) true 77 5,.v (.c 0 0) T77]] (by kernel_rfl)
def qqk(n:Nat):CL Tryz.prog:=⟨[],[qcL n],0,nof⟩
def qml(n:Nat):Cw Tryz.prog:=mkW tab (qqk n) [] Tryz.func125 [.v (.t 0) T77,.obj (.t 1) true 35 1,.v (.c 0 0) T35] 2 [[.v (.t 0) T4,.obj (.t 1) true 35 1,.v (.c 0 0) T35]] (by kernel_rfl)
def qbl(n:Nat):CL Tryz.prog:=⟨[qkb n],[],0,nof⟩
def qen(n:Nat):LK Tryz.prog false:=mkL tab (qbl n) [] Tryz.f173 [true,false,false,true,false,false,true,false,false] 1 n [.v (.t 1) T3,.v (.t 2) T3,.fn (.t 3) 129 [] [],.v (.t 8) T3,.v (.t 9) T3,.row (.t 0) true T77 77] [(.exit 2,[.v (.t 1) T3,.v (.t 2) T3,.fn (.t 3) 129 [] [],.v (.t 8) T3,.row (.t 0) true T77 77])] (by kernel_rfl)
def qeo(n:Nat):LK Tryz.prog false:=mkL tab (qbl n) [qen n] Tryz.f173 [true,false,false] 0 n [.v (.t 1) T3,.v (.t 2) T3,.fn (.t 3) 129 [] [],.v (.t 8) T3,.row (.t 0) true T77 77] [(.exit 0,[.row (.t 0) true T77 77])] (by kernel_rfl)
def qb9(n:Nat):Cw Tryz.prog:=mkW tab (qbl n) [qeo n] Tryz.func173 [.v (.t 1) T3,.v (.t 2) T3,.fn (.t 3) 129 [] [],.row (.t 0) true T77 77] 4 [[.row (.t 0) true T77 77]] (by kernel_rfl)
def qpA(n:Nat):CL Tryz.prog:=⟨[qdS n,qlM n],[],0,nof⟩
def qql(n:Nat):Ct Tryz.prog:=mkC tab (qpA n) [] Tryz.func172 [.d T84,.d T84] [T3] (by kernel_rfl)
def qdq(n:Nat):CL Tryz.prog:=⟨[qql n],[],0,nof⟩
def qgt(n:Nat):LK Tryz.prog false:=mkL tab (qdq n) [] Tryz.f171 [true,false,true,false,false] 0 n [.v (.t 0) T75,.v (.t 1) T75,.fn (.t 2) 172 [] [],.v (.t 11) T75,.v (.t 12) T3,.v (.t 13) T3] [(.exit 0,[.v (.t 0) T75,.v (.t 1) T75]),(.ret,[.v (.t 6) T3])] (by kernel_rfl)
def qgE(n:Nat):Ct Tryz.prog:=mkC tab (qdq n) [qgt n] Tryz.func171 [.d T75,.d T75,.fn 172 [] []] [T3] (by kernel_rfl)
def qq8(n:Nat):CL Tryz.prog:=⟨[qdS n,qlM n,qgE n],[],0,nof⟩
def qit(n:Nat):Ct Tryz.prog:=mkC tab (qq8 n) [] Tryz.func157 [.d T77,.d T77] [T3] (by kernel_rfl)
def qbm(n:Nat):CL Tryz.prog:=⟨[qit n],[],0,nof⟩
def qep(n:Nat):LK Tryz.prog false:=mkL tab (qbm n) [] Tryz.f173 [true,false,false,true,false,false,true,false,false] 1 n [.v (.t 1) T3,.v (.t 2) T3,.fn (.t 3) 157 [] [],.v (.t 8) T3,.v (.t 9) T3,.row (.t 0) true T77 77] [(.exit 2,[.v (.t 1) T3,.v (.t 2) T3,.fn (.t 3) 157 [] [],.v (.t 8) T3,.row (.t 0) true T77 77])] (by kernel_rfl)
def qeq(n:Nat):LK Tryz.prog false:=mkL tab (qbm n) [qep n] Tryz.f173 [true,false,false] 0 n [.v (.t 1) T3,.v (.t 2) T3,.fn (.t 3) 157 [] [],.v (.t 8) T3,.row (.t 0) true T77 77] [(.exit 0,[.row (.t 0) true T77 77])] (by kernel_rfl)
def qca(n:Nat):Cw Tryz.prog:=mkW tab (qbm n) [qeq n] Tryz.func173 [.v (.t 1) T3,.v (.t 2) T3,.fn (.t 3) 157 [] [],.row (.t 0) true T77 77] 4 [[.row (.t 0) true T77 77]] (by kernel_rfl)
def qoV(n:Nat):CL Tryz.prog:=⟨[qfl n],[],0,nof⟩
def qk6(n:Nat):Ct Tryz.prog:=mkC tab (qoV n) [] Tryz.func146 [.d T129] [T4] (by kernel_rfl)
def qdA(n:Nat):CL Tryz.prog:=⟨[qk6 n],[],0,nof⟩
def qgS(n:Nat):LK Tryz.prog false:=mkL tab (qdA n) [] Tryz.f168 [true,false,true,false,false] 0 n [.v (.t 0) T32,.fn (.t 1) 146 [] [],.v (.t 7) T3,.v (.t 8) T3] [(.exit 0,[]),(.ret,[.v (.t 4) T3])] (by kernel_rfl)
def qg4(n:Nat):Ct Tryz.prog:=mkC tab (qdA n) [qgS n] Tryz.func168 [.d T32,.fn 146 [] []] [T3] (by kernel_rfl)
def qgl(n:Nat):CL Tryz.prog:=⟨[qk6 n,qg4 n],[],0,nof⟩
def qgu(n:Nat):Ct Tryz.prog:=mkC tab (qgl n) [] Tryz.func145 [.d T32,.fn 146 [] []] [T4] (by kernel_rfl)
def qqm(n:Nat):CL Tryz.prog:=⟨[qfl n,qgu n],[],0,nof⟩
def qq9(n:Nat):Ct Tryz.prog:=mkC tab (qqm n) [] Tryz.func106 [.d T122] [T4] (by kernel_rfl)
def qoW(n:Nat):CL Tryz.prog:=⟨[qit n],[],0,nof⟩
def qpB(n:Nat):Ct Tryz.prog:=mkC tab (qoW n) [] Tryz.func159 [.d T77,.d T77] [T4] (by kernel_rfl)
end
section
def qdM(n:Nat):CL Tryz.prog:=⟨[],[],0,fun _=>false⟩
def qgm(n:Nat):Nat→St→PT (DEx×St):=fun _ _=>.fail
theorem qjJ(n:Nat):qO (qdM n).c (qi Tryz.f170) 0=[]:=by kernel_rfl
theorem qjK:Tryz.f170.body=some (qi Tryz.f170):=by kernel_rfl
abbrev qdN:List It:=[.raw (.t 0),.v (.t 1) T3]
abbrev qdF:List (List It):=[[.row (.t 0) false T77 77]]
def qjL(n:Nat)(x:qd qdN):Option (qV qdF):=runW tab (qdM n) (qgm n) (qi Tryz.f170) qdN 2 27 [.tmp 4] qdF x
def qjM(n:Nat):Cw Tryz.prog:=⟨170,2,qdN,1,qdF,qjL n,fun _ _ h=>qh7 (B:=tab) (cs:=qdM n) (lo:=qgm n) (rs:=[.tmp 4]) Tryz.func170 (by kernel_rfl) qjK (by kernel_rfl) (by decide) (qfW (qjJ n) qdn) h⟩
def qec(n:Nat):CL Tryz.prog:=⟨[],[qjM n],1,nof⟩
def qkc(n:Nat):LK Tryz.prog false:=mkL tab (qec n) [] Tryz.f156 [true,true,false,true,false,false] 0 n [.v (.t 0) T190,.v (.t 3) T3,.v (.t 9) T190,.v (.t 10) T3,.v (.t 11) T3] [(.exit 0,[.v (.t 0) T190,.v (.t 3) T3])] (by kernel_rfl)
def qkd(n:Nat):LK Tryz.prog false:=mkL tab (qec n) [] Tryz.f156 [true,true,true,true,false,true,false,false] 1 n [.v (.t 25) T190,.v (.t 26) T3,.v (.t 27) T3,.row (.t 6) false T77 77] [(.exit 2,[.row (.t 6) false T77 77])] (by kernel_rfl)
def qkE(n:Nat):Cw Tryz.prog:=mkW tab (qec n) [qkc n,qkd n] Tryz.func156 [.v (.t 0) T190] 1 [[.row (.t 0) false T77 77]] (by kernel_rfl)
abbrev qn:List It:=[.v (.t 1) T3,.v (.t 2) T3,.v (.t 3) T3,.fn (.t 4) 157 [] [],.row (.t 0) true T77 77]
abbrev ql:List (List It):=[[.row (.t 0) true T77 77]]
abbrev qe:Type:={g:qd qn→Option (qV ql) // qks Tryz.prog 160 5 qn 0 ql g}
def qy(n:Nat)(g:qe):CL Tryz.prog:=⟨[qit n],[qb9 n,qca n,⟨160,5,qn,0,ql,g.1,g.2⟩],0,fun _=>false⟩
def qcw(n:Nat)(g:qe):Nat→St→PT (DEx×St):=fun _ _=>.fail
abbrev qJ:List It:=[.v (.t 1) T3,.v (.t 2) T3,.v (.t 3) T3,.fn (.t 4) 157 [] [],.v (.t 10) T4,.v (.t 11) T4,.row (.t 0) true T77 77]
abbrev qY:List (DEx×List It):=[(.ret,[.row (.t 0) true T77 77])]
def qfn(n:Nat)(g:qe)(rec:qd qJ→Option (qS qY))(s:qd qJ):Option (qS qY):=(qdt tab (qy n g) (qcw n g) (subC [true,true,false,false] (qi Tryz.f160)) 1 (mkS qJ 148 s)).run (Lp.leaf 148 qJ qY rec)
def qbD(n:Nat)(g:qe):Lp:=⟨148,qJ,qY,qg n (qfn n g)⟩
theorem qfo(n:Nat)(g:qe):qO (qy n g).c (subC [true,true,false,false] (qi Tryz.f160)) 1=[]:=by kernel_rfl
theorem qeT(n:Nat)(g:qe)(st:St)(r:DEx×St)(h:((qbD n g).go st).Is r):DA Tryz.prog false (.loop (subC [true,true,false,false] (qi Tryz.f160))) st r:=Lp.ok (L:=qbD n g) (B:=tab) (cs:=qy n g) (lo:=qcw n g) (id:=0) rfl (qfW (qfo n g) qdn) (fun _ _=>rfl) h
def qcC(n:Nat)(g:qe):Nat→St→PT (DEx×St):=fun k st=>match k with
 | 0=>(qbD n g).go st
 | _=>.fail
theorem qfC(n:Nat)(g:qe):qO (qy n g).c (qi Tryz.f160) 0=[(0,.loop (subC [true,true,false,false] (qi Tryz.f160)))]:=by kernel_rfl
theorem qfD:Tryz.f160.body=some (qi Tryz.f160):=by kernel_rfl
def qcD(n:Nat)(g:qe)(x:qd qn):Option (qV ql):=runW tab (qy n g) (qcC n g) (qi Tryz.f160) qn 5 148 [] ql x
theorem qfp(n:Nat)(g:qe):qks Tryz.prog 160 5 qn 0 ql (qcD n g):=fun _ _ h=>qh7 (B:=tab) (cs:=qy n g) (lo:=qcC n g) (rs:=[]) Tryz.func160 (by kernel_rfl) qfD (by kernel_rfl) (by decide) (qfW (qfC n g) (all_cons (fun st r h=>qeT n g st r h) qdn)) h
def q7(n:Nat):Nat→qe
 | 0=>⟨fun _=>none,fun _ _ h=>by cases h⟩
 | k+1=>⟨qcD n (q7 n k),qfp n (q7 n k)⟩
def qfE(n:Nat)(x:qd qn):Option (qV ql):=(q7 n n).1 x
def qcM(n:Nat):Cw Tryz.prog:=⟨160,5,qn,0,ql,qfE n,(q7 n n).2⟩
def qgF(n:Nat):CL Tryz.prog:=⟨[qjs n,qit n],[qcM n],0,nof⟩
def qdB(n:Nat):Cw Tryz.prog:=mkW tab (qgF n) [] Tryz.func128 [.fn (.t 1) 157 [] [],.row (.t 0) true T77 77] 2 [[.row (.t 0) true T77 77]] (by kernel_rfl)
abbrev qo:List It:=[.v (.t 1) T3,.v (.t 2) T3,.v (.t 3) T3,.fn (.t 4) 129 [] [],.row (.t 0) true T77 77]
abbrev qm:List (List It):=[[.row (.t 0) true T77 77]]
abbrev qf:Type:={g:qd qo→Option (qV qm) // qks Tryz.prog 160 5 qo 0 qm g}
def qz(n:Nat)(g:qf):CL Tryz.prog:=⟨[qkb n],[qb9 n,qca n,⟨160,5,qo,0,qm,g.1,g.2⟩],0,fun _=>false⟩
def qcx(n:Nat)(g:qf):Nat→St→PT (DEx×St):=fun _ _=>.fail
abbrev qK:List It:=[.v (.t 1) T3,.v (.t 2) T3,.v (.t 3) T3,.fn (.t 4) 129 [] [],.v (.t 10) T4,.v (.t 11) T4,.row (.t 0) true T77 77]
abbrev qZ:List (DEx×List It):=[(.ret,[.row (.t 0) true T77 77])]
def qfq(n:Nat)(g:qf)(rec:qd qK→Option (qS qZ))(s:qd qK):Option (qS qZ):=(qdt tab (qz n g) (qcx n g) (subC [true,true,false,false] (qi Tryz.f160)) 1 (mkS qK 148 s)).run (Lp.leaf 148 qK qZ rec)
def qbE(n:Nat)(g:qf):Lp:=⟨148,qK,qZ,qg n (qfq n g)⟩
theorem qfr(n:Nat)(g:qf):qO (qz n g).c (subC [true,true,false,false] (qi Tryz.f160)) 1=[]:=by kernel_rfl
theorem qeU(n:Nat)(g:qf)(st:St)(r:DEx×St)(h:((qbE n g).go st).Is r):DA Tryz.prog false (.loop (subC [true,true,false,false] (qi Tryz.f160))) st r:=Lp.ok (L:=qbE n g) (B:=tab) (cs:=qz n g) (lo:=qcx n g) (id:=0) rfl (qfW (qfr n g) qdn) (fun _ _=>rfl) h
def qcE(n:Nat)(g:qf):Nat→St→PT (DEx×St):=fun k st=>match k with
 | 0=>(qbE n g).go st
 | _=>.fail
theorem qfF(n:Nat)(g:qf):qO (qz n g).c (qi Tryz.f160) 0=[(0,.loop (subC [true,true,false,false] (qi Tryz.f160)))]:=by kernel_rfl
theorem qfG:Tryz.f160.body=some (qi Tryz.f160):=by kernel_rfl
def qcF(n:Nat)(g:qf)(x:qd qo):Option (qV qm):=runW tab (qz n g) (qcE n g) (qi Tryz.f160) qo 5 148 [] qm x
theorem qfs(n:Nat)(g:qf):qks Tryz.prog 160 5 qo 0 qm (qcF n g):=fun _ _ h=>qh7 (B:=tab) (cs:=qz n g) (lo:=qcE n g) (rs:=[]) Tryz.func160 (by kernel_rfl) qfG (by kernel_rfl) (by decide) (qfW (qfF n g) (all_cons (fun st r h=>qeU n g st r h) qdn)) h
def q8(n:Nat):Nat→qf
 | 0=>⟨fun _=>none,fun _ _ h=>by cases h⟩
 | k+1=>⟨qcF n (q8 n k),qfs n (q8 n k)⟩
def qfH(n:Nat)(x:qd qo):Option (qV qm):=(q8 n n).1 x
def qfI(n:Nat):Cw Tryz.prog:=⟨160,5,qo,0,qm,qfH n,(q8 n n).2⟩
def qgG(n:Nat):CL Tryz.prog:=⟨[qjs n,qkb n],[qcM n,qfI n],0,nof⟩
def qdC(n:Nat):Cw Tryz.prog:=mkW tab (qgG n) [] Tryz.func128 [.fn (.t 1) 129 [] [],.row (.t 0) true T77 77] 2 [[.row (.t 0) true T77 77]] (by kernel_rfl)
def qbF(n:Nat):CL Tryz.prog:=⟨[qpB n],[],0,nof⟩
def qft(n:Nat):LK Tryz.prog false:=mkL tab (qbF n) [] Tryz.f158 [true,true,false,true,false,false,true,false,false,true,false,true,false,true,false,false] 1 n [.fn (.t 1) 159 [] [],.v (.t 5) T3,.v (.t 7) T3,.row (.t 0) true T77 77,.sub (.t 6) 0] [(.exit 2,[.v (.t 5) T3,.row (.t 0) true T77 77])] (by kernel_rfl)
def qfu(n:Nat):LK Tryz.prog false:=mkL tab (qbF n) [qft n] Tryz.f158 [true,true,false,true,false,false] 0 n [.fn (.t 1) 159 [] [],.v (.t 5) T3,.row (.t 0) true T77 77] [(.exit 0,[.row (.t 0) true T77 77]),(.ret,[.row (.t 0) true T77 77,.sub (.t 4) 0])] (by kernel_rfl)
def qfJ(n:Nat):Cw Tryz.prog:=mkW tab (qbF n) [qfu n] Tryz.func158 [.fn (.t 1) 159 [] [],.row (.t 0) true T77 77] 2 [[.row (.t 1) true T77 77,.sub (.t 0) 0]] (by kernel_rfl)
def qcN(n:Nat):CL Tryz.prog:=⟨[],[qml n],0,nof⟩
def qfK(n:Nat):LK Tryz.prog false:=mkL tab (qcN n) [] Tryz.f33 [true,false,true,false,false] 0 n [.v (.t 7) T3,.v (.t 8) T3,.row (.t 0) true T77 77,.fnc (.t 1) 125 [.box true 35 1],.v (.c 1 0) T35] [(.exit 0,[.row (.t 0) true T77 77,.fnc (.t 1) 125 [.box true 35 1],.v (.c 1 0) T35]),(.ret,[.v (.t 4) T3,.row (.t 0) true T77 77,.fnc (.t 1) 125 [.box true 35 1],.v (.c 1 0) T35])] (by kernel_rfl)
def qbK(n:Nat):Cw Tryz.prog:=mkW tab (qcN n) [qfK n] Tryz.func33 [.row (.t 0) true T77 77,.fnc (.t 1) 125 [.box true 35 1],.v (.c 1 0) T35] 2 [[.v (.t 0) T3,.row (.t 1) true T77 77,.obj (.t 2) true 35 1,.v (.c 1 0) T35]] (by kernel_rfl)
def qdi(n:Nat):CL Tryz.prog:=⟨[],[qbK n,qbj n,qml n],0,nof⟩
def qgn(n:Nat):LK Tryz.prog false:=mkL tab (qdi n) [] Tryz.f123 [true,true,true,false,true,false,false] 0 n [.v (.t 5) T3,.v (.t 6) T3,.row (.t 0) true T77 77,.fnc (.t 1) 125 [.box true 35 1],.v (.c 1 0) T35] [(.exit 0,[.v (.t 5) T3,.row (.t 0) true T77 77,.fnc (.t 1) 125 [.box true 35 1],.v (.c 1 0) T35])] (by kernel_rfl)
def qgv(n:Nat):Cw Tryz.prog:=mkW tab (qdi n) [qgn n] Tryz.func123 [.row (.t 0) true T77 77,.fnc (.t 1) 125 [.box true 35 1],.v (.c 1 0) T35] 2 [[.row (.t 1) true T77 77,.obj (.t 2) true 35 1,.v (.c 1 0) T35,.sub (.t 0) 0]] (by kernel_rfl)
abbrev qR:List It:=[.v (.t 1) T3,.v (.t 2) T3,.v (.t 3) T3,.row (.t 0) true T3 3]
abbrev qP:List (List It):=[[.row (.t 0) true T3 3]]
abbrev qB:Type:={g:qd qR→Option (qV qP) // qks Tryz.prog 100 4 qR 0 qP g}
def qbz(n:Nat)(g:qB):CL Tryz.prog:=⟨[qm3 n],[qiI n,⟨100,4,qR,0,qP,g.1,g.2⟩],0,fun _=>false⟩
def qgo(n:Nat)(g:qB):Nat→St→PT (DEx×St):=fun _ _=>.fail
abbrev qbV:List It:=[.v (.t 1) T3,.v (.t 2) T3,.v (.t 3) T3,.v (.t 8) T4,.v (.t 9) T4,.row (.t 0) true T3 3]
abbrev qcI:List (DEx×List It):=[(.ret,[.row (.t 0) true T3 3])]
def qjN(n:Nat)(g:qB)(rec:qd qbV→Option (qS qcI))(s:qd qbV):Option (qS qcI):=(qdt tab (qbz n g) (qgo n g) (subC [true,true,false,false] (qi Tryz.f100)) 1 (mkS qbV 134 s)).run (Lp.leaf 134 qbV qcI rec)
def qd0(n:Nat)(g:qB):Lp:=⟨134,qbV,qcI,qg n (qjN n g)⟩
theorem qjO(n:Nat)(g:qB):qO (qbz n g).c (subC [true,true,false,false] (qi Tryz.f100)) 1=[]:=by kernel_rfl
theorem qiZ(n:Nat)(g:qB)(st:St)(r:DEx×St)(h:((qd0 n g).go st).Is r):DA Tryz.prog false (.loop (subC [true,true,false,false] (qi Tryz.f100))) st r:=Lp.ok (L:=qd0 n g) (B:=tab) (cs:=qbz n g) (lo:=qgo n g) (id:=0) rfl (qfW (qjO n g) qdn) (fun _ _=>rfl) h
def qgA(n:Nat)(g:qB):Nat→St→PT (DEx×St):=fun k st=>match k with
 | 0=>(qd0 n g).go st
 | _=>.fail
theorem qke(n:Nat)(g:qB):qO (qbz n g).c (qi Tryz.f100) 0=[(0,.loop (subC [true,true,false,false] (qi Tryz.f100)))]:=by kernel_rfl
theorem qkf:Tryz.f100.body=some (qi Tryz.f100):=by kernel_rfl
def qgB(n:Nat)(g:qB)(x:qd qR):Option (qV qP):=runW tab (qbz n g) (qgA n g) (qi Tryz.f100) qR 4 134 [] qP x
theorem qjP(n:Nat)(g:qB):qks Tryz.prog 100 4 qR 0 qP (qgB n g):=fun _ _ h=>qh7 (B:=tab) (cs:=qbz n g) (lo:=qgA n g) (rs:=[]) Tryz.func100 (by kernel_rfl) qkf (by kernel_rfl) (by decide) (qfW (qke n g) (all_cons (fun st r h=>qiZ n g st r h) qdn)) h
def qcX(n:Nat):Nat→qB
 | 0=>⟨fun _=>none,fun _ _ h=>by cases h⟩
 | k+1=>⟨qgB n (qcX n k),qjP n (qcX n k)⟩
def qkg(n:Nat)(x:qd qR):Option (qV qP):=(qcX n n).1 x
def qkh(n:Nat):Cw Tryz.prog:=⟨100,4,qR,0,qP,qkg n,(qcX n n).2⟩
def qog(n:Nat):CL Tryz.prog:=⟨[qjs n],[qkh n],0,nof⟩
def qoX(n:Nat):Cw Tryz.prog:=mkW tab (qog n) [] Tryz.func66 [.row (.t 0) true T3 3] 1 [[.row (.t 0) true T3 3]] (by kernel_rfl)
def qpC(n:Nat):CL Tryz.prog:=⟨[],[qdB n,qdC n,qkE n,qfJ n],1,nof⟩
def qlN(n:Nat):Cw Tryz.prog:=mkW tab (qpC n) [] Tryz.func122 [.v (.t 0) T190] 1 [[.row (.t 0) false T77 77]] (by kernel_rfl)
def qln(n:Nat):CL Tryz.prog:=⟨[qnU n],[],0,nof⟩
def qh9(n:Nat):Cw Tryz.prog:=mkW tab (qln n) [] Tryz.func147 [.v (.t 0) T77,.obj (.t 1) true 122 2,.v (.c 0 0) T122] 2 [[.v (.t 0) T4,.obj (.t 1) true 122 2,.v (.c 0 0) T122]] (by kernel_rfl)
def qci(n:Nat):CL Tryz.prog:=⟨[],[qh9 n],0,nof⟩
def qeI(n:Nat):LK Tryz.prog false:=mkL tab (qci n) [] Tryz.f33 [true,false,true,false,false] 0 n [.v (.t 0) T35,.v (.t 7) T3,.v (.t 8) T3,.fnc (.t 1) 147 [.box true 122 2],.v (.c 0 0) T122] [(.exit 0,[.fnc (.t 1) 147 [.box true 122 2],.v (.c 0 0) T122]),(.ret,[.v (.t 4) T3,.fnc (.t 1) 147 [.box true 122 2],.v (.c 0 0) T122])] (by kernel_rfl)
def qcn(n:Nat):Cw Tryz.prog:=mkW tab (qci n) [qeI n] Tryz.func33 [.v (.t 0) T35,.fnc (.t 1) 147 [.box true 122 2],.v (.c 0 0) T122] 2 [[.v (.t 0) T3,.obj (.t 1) true 122 2,.v (.c 0 0) T122]] (by kernel_rfl)
def qed(n:Nat):CL Tryz.prog:=⟨[],[qbK n,qbj n,qcn n,qh9 n],0,nof⟩
def qer(n:Nat):Cw Tryz.prog:=mkW tab (qed n) [] Tryz.func126 [.v (.t 0) T35,.fnc (.t 1) 147 [.box true 122 2],.v (.c 0 0) T122] 2 [[.v (.t 0) T4,.obj (.t 1) true 122 2,.v (.c 0 0) T122]] (by kernel_rfl)
def qmx(n:Nat):CL Tryz.prog:=⟨[qts n],[qlN n,qcL n,qer n],1,nof⟩
def qm5(n:Nat):Ct Tryz.prog:=mkC tab (qmx n) [] Tryz.func107 [.d T122,.d T35] [T24] (by kernel_rfl)
def qsw(n:Nat):CL Tryz.prog:=⟨[qq9 n,qm5 n],[],0,nof⟩
def qlO(n:Nat):Ct Tryz.prog:=mkC tab (qsw n) [] Tryz.func74 [.d T34,.d T35] [T24] (by kernel_rfl)
end
section
def qdG(n:Nat):CL Tryz.prog:=⟨[],[],0,fun _=>false⟩
def qf1(n:Nat):Nat→St→PT (DEx×St):=fun _ _=>.fail
theorem qjt(n:Nat):qO (qdG n).c (qi Tryz.f124) 0=[]:=by kernel_rfl
theorem qju:Tryz.f124.body=some (qi Tryz.f124):=by kernel_rfl
abbrev qdH:List It:=[.raw (.t 0)]
abbrev qdy:List (List It):=[[.row (.t 0) false T77 77]]
def qcy(n:Nat)(x:qd qdH):Option (qV qdy):=runW tab (qdG n) (qf1 n) (qi Tryz.f124) qdH 1 8 [.tmp 2] qdy x
def qjv(n:Nat):Cw Tryz.prog:=⟨124,1,qdH,1,qdy,qcy n,fun _ _ h=>qh7 (B:=tab) (cs:=qdG n) (lo:=qf1 n) (rs:=[.tmp 2]) Tryz.func124 (by kernel_rfl) qju (by kernel_rfl) (by decide) (qfW (qjt n) qdn) h⟩
def qeD(n:Nat):CL Tryz.prog:=⟨[],[],0,fun _=>false⟩
def qg8(n:Nat):Nat→St→PT (DEx×St):=fun _ _=>.fail
theorem qkQ(n:Nat):qO (qeD n).c (qi Tryz.f124) 0=[]:=by kernel_rfl
theorem qkR:Tryz.f124.body=some (qi Tryz.f124):=by kernel_rfl
abbrev qeE:List It:=[.v (.t 0) T35]
abbrev qcY:List (List It):=[[.row (.t 0) false T77 77]]
def qhA(n:Nat)(x:qd qeE):Option (qV qcY):=runW tab (qeD n) (qg8 n) (qi Tryz.f124) qeE 1 8 [.tmp 2] qcY x
def qkS(n:Nat):Cw Tryz.prog:=⟨124,1,qeE,1,qcY,qhA n,fun _ _ h=>qh7 (B:=tab) (cs:=qeD n) (lo:=qg8 n) (rs:=[.tmp 2]) Tryz.func124 (by kernel_rfl) qkR (by kernel_rfl) (by decide) (qfW (qkQ n) qdn) h⟩
end
theorem qkT(n:Nat)(c:Nat):qcy n (.slice none 0 c,())=some ([],()):=by kernel_rfl
theorem qkU(n:Nat)(a:Addr)(c:Nat):qcy n (.slice (some a) 0 c,())=some ([],()):=by kernel_rfl
def qkV(n:Nat):Cw Tryz.prog:=qut 124 T77 qcY (qcy n) (qhA n) ([],()) (fun v y m0 h=>(qjv n).okk (x:=(v,())) (y:=y) h m0 (qnT m0)) (fun l y m0 h=>(qkS n).okk (x:=(l,())) (y:=y) h m0 (qnT m0)) (fun A c=>by cases A with | none=>exact qkT n c | some a=>exact qkU n a c)
set_option maxHeartbeats 4000000
def qki(hut:Int)(lo:Int):Nat→List (Int×Int)
 | 0=>[]
 | n+1=>(hut,lo)::qki hut (lo+1) n
def qra(s:Int×(Int×Int)):List (Int×Int):=qki s.1 s.2.1 (s.2.2+1-s.2.1).toNat
def qdO:List (Int×(Int×Int))→List (Int×Int)
 | []=>[]
 | s::l=>qra s++qdO l
def qtt(l:List (Int×(Int×Int))):Bool:=Nat.ble l.length 1000000&&l.all fun s=>decide (-9223372036854775808≤s.2.1)&&decide (s.2.2<9223372036854775807)
def qrb(y:Int×Int):qI [T150]:=(y,())
theorem qsl(l:List (Int×Int)):((l.map qrb).map (tysA [T150])).length=l.length:=by rw[List.length_map,List.length_map]
def qrc(l:List (Int×(Int×Int))):Option (List (qI [T150])):=cond (qtt l) (some ((qdO l).map qrb)) none
def qgp(l:List (Int×(Int×Int)))(k:Nat):Nat:=(qdO (l.take k)).length
theorem qmy(h:Int):∀(n:Nat) (lo:Int),(qki h lo n).length=n
 | 0,_=>rfl
 | n+1,lo=>by simp[qki,qmy h n]
theorem qrd(h:Int):∀(n:Nat) (lo:Int) (j:Nat),j<n→(qki h lo n)[j]?=some (h,lo+j)
 | n+1,lo,0,_=>by simp[qki]
 | n+1,lo,j+1,hj=>by
  simp only[qki,List.getElem?_cons_succ]
  rw[qrd h n (lo+1) j (by omega)]
  congr 2
  omega
theorem qnV:∀(l m:List (Int×(Int×Int))),qdO (l++m)=qdO l++qdO m
 | [],_=>rfl
 | s::l,m=>by simp[qdO,qnV l m]
theorem qu8(l:List (Int×(Int×Int)))(k:Nat)(hk:k<l.length):qgp l (k+1)=qgp l k+(l[k].2.2+1-l[k].2.1).toNat:=by
 unfold qgp
 rw[List.take_succ_eq_append_getElem hk,qnV]
 simp[qdO,qra,qmy]
theorem qwd(l:List (Int×(Int×Int))):qgp l l.length=(qdO l).length:=by unfold qgp;simp
theorem qxy(l:List (Int×(Int×Int)))(k:Nat)(hk:k<l.length)(j:Nat)(hj:j<(l[k].2.2+1-l[k].2.1).toNat):(qdO l)[qgp l k+j]?=some (l[k].1,l[k].2.1+j):=by
 have h1:l=l.take k++l[k]::l.drop (k+1):=by simp
 have h2:qdO l=qdO (l.take k)++(qra l[k]++qdO (l.drop (k+1))):=by
  conv=>lhs;rw[h1]
  rw[qnV];rfl
 rw[h2,List.getElem?_append_right (by unfold qgp;omega),show qgp l k+j-(qdO (l.take k)).length=j by unfold qgp;omega,List.getElem?_append_left (by unfold qra;rw[qmy];exact hj)]
 exact qrd _ _ _ _ hj
theorem qx1{a b:Int}(h:a=b):[AV.int a]=[AV.int b]:=by rw[h]
theorem qxz(x:qI [T77])(l:List (qI [T150]))(h:qrc x.1.2.2.2.2=some l):qqE Tryz.prog false 155 [] (qe3 [T77] x) (l.map (tysA [T150])):=by
 obtain ⟨⟨ma,mb,mc,md,ss⟩,u⟩:=x
 change List (Int×(Int×Int)) at ss
 unfold qrc at h
 cases hb:qtt ss with
 | false=>simp only at h;rw[hb] at h;cases h
 | true =>
 simp only at h;rw[hb] at h
 injection h with h
 subst h
 unfold qtt at hb
 simp only[Bool.and_eq_true,Nat.ble_eq,List.all_eq_true,decide_eq_true_eq] at hb
 obtain ⟨hlen,hbd⟩:=hb
 refine ⟨enters_of Tryz.func155 (by kernel_rfl) rfl,fun lp T J Jx X hcJ hcx hone hy=>?_⟩
 have hyk:∀k (hk:k<ss.length) (j:Nat),j<(ss[k].2.2+1-ss[k].2.1).toNat→qqD Tryz.prog T lp [.agg [.int ss[k].1,.int (ss[k].2.1+j)]] (J (qgp ss k+j)) (J (qgp ss k+j+1)) Jx:=fun k hk j hj=>by
  have h1:=qxy ss k hk j hj
  have h2:=(List.getElem?_eq_some_iff.1 h1).1
  have h3:=hy (qgp ss k+j) (by rw[qsl];exact h2)
  rw[List.getElem_map,List.getElem_map,(List.getElem?_eq_some_iff.1 h1).2] at h3
  exact h3
 have hY:=Lib.hid hyk
 have hN:=Lib.hid (qu8 ss)
 have hN0:qgp ss 0=0:=rfl
 have hNl:qgp ss ss.length=(((qdO ss).map qrb).map (tysA [T150])).length:=by rw[qwd,qsl]
 show MCT Tryz.prog T 155 [.val (.func (.yield lp) #[] #[]),.rp [.val (.int .i64 ma),.val (.int .i64 mb),.val (.int .i64 mc),.val (.int .i64 md),.sl 3 (ss.map fun s=>[.val (.int .i64 s.1),.val (.int .i64 s.2.1),.val (.int .i64 s.2.2)])]] [.nodef,.ghost X (J 0)] fun _ H'=>∃X',HE.ghost X' (J (((qdO ss).map qrb).map (tysA [T150])).length)∈H'∨HE.ghost X' Jx∈H'
 rw[← hNl,← hN0]
 clear hy hyk hNl
 generalize hrr:(ss.map fun s=>[AV.val (.int .i64 s.1),AV.val (.int .i64 s.2.1),AV.val (.int .i64 s.2.2)])=rr
 have hrl:rr.length=ss.length:=by rw[← hrr];simp
 have hra:∀k (hk:k<ss.length),rr[k]?=some [.int ss[k].1,.int ss[k].2.1,.int ss[k].2.2]:=fun k hk=>by rw[← hrr,List.getElem?_map,List.getElem?_eq_getElem hk];rfl
 (refine MCT.of Tryz.func155 (by kernel_rfl) rfl (by simp only[Tryz.ntmps155,List.length_cons,List.length_nil,Nat.reduceAdd,Nat.reduceSub,List.replicate_succ,List.replicate_zero,List.cons_append,List.nil_append];rfl) fun w0 S hM hT=>?_;have hF:Wf Fence.wide:=.inl rfl)
 (repeat' (first | ((first | with_reducible refine AL.id_ ?_ | with_reducible refine AE.id_ ?_);first | refine AL.build0 hF rfl rfl rfl (fun b=>⟨_,(by simp only[AV.put];rfl),?_⟩) | refine W.s rfl rfl (by first | exact AY.bx rfl (by simp only[evO,AV.get];rfl) rfl | exact AY.mkFn rfl (by simp only[List.map_cons,List.map_nil,evO,AV.get];rfl) | exact AY.mkFn1 rfl (by simp only[evO,AV.get];rfl) (by simp only[List.map_cons,List.map_nil,evO,AV.get];rfl) | exact hEQ rfl rfl rfl | exact Step2.sound (by first | (((first | (apply Step2.a;constructor) | (apply Step2.b;constructor))<;>first | infer_instance | skip)<;>(first | infer_instance | (refine w64c ?_;omega) | (refine qns ?_;omega) | (refine qlz ?_;omega) | (refine qlA ?_;omega) | (refine qnp ?_;omega) | ((repeat (first | exact .head _ | refine .tail _ ?_));done) | assumption | (simp only[List.drop_succ_cons,List.drop_zero,List.length_map,Nat.zero_add,Nat.mul_one];rfl) | rfl | omega | (simp;done))) | fail) rfl | exact AY.call rfl rfl _ rfl (by fail) | exact AY.slice1 rfl rfl rfl (by rfl) (by first | (simp;done) | fail) | exact AY.callF rfl _ _ rfl _ rfl (by fail) | exact AY.old1k 0 rfl rfl rfl (by first | assumption | rfl) | exact AY.old1k 1 rfl rfl rfl (by first | assumption | rfl) | exact AY.old1k 2 rfl rfl rfl (by first | assumption | rfl) | exact AY.oldNk 0 rfl rfl rfl (by first | omega | (simp;omega)) (by first | assumption | rfl) | exact AY.oldNk 1 rfl rfl rfl (by first | omega | (simp;omega)) (by first | assumption | rfl)) (by simp only[AV.put];rfl) ?_ | (refine AL.nilK (hK _ _ ?_);clear hK K) | (refine AE.nil (hK _ ?_);clear hK K) | refine W.k rfl rfl (by simp only[AV.put];rfl) ?_ | refine AL.unguardS rfl rfl ?_ | refine AL.al hF rfl rfl rfl (by first | (simp only[Value.cells,List.map_cons,List.map_nil];rfl) | rfl) (fun b=>⟨_,(by simp only[AV.put];rfl),?_⟩) | refine AL.st1 hF rfl rfl rfl rfl (by simp only[evO,AV.get];rfl) (by first | exact qhM | exact qhN | exact qhO | exact qhP | exact qhQ | exact qhR | exact qhS | exact qhT) (by rfl) rfl (by rfl) (by first | (simp;done) | (simp;omega) | omega) (by simp only[List.set];rfl) ?_ | refine AL.stW hF rfl rfl rfl rfl (by simp only[evO,AV.get];rfl) (by first | exact qhM | exact qhN | exact qhO | exact qhP | exact qhQ | exact qhR | exact qhS | exact qhT) (by rfl) (by rfl) (by rfl) (by first | rfl | simp) (by simp only[List.set];rfl) ?_) | (with_reducible refine Awp.id_ ?_;first | refine Awp.seq ?_ | refine Awp.regionK (by first | (simp only[AV.putO,AV.put];rfl) | rfl) (fun K hK=>?_) | refine Awp.drawE (by first | (simp only[AV.putO,AV.put];rfl) | rfl) mixed rfl (by kernel_rfl) (fun K hK=>?_) | refine Awp.block ?_ | refine Awp.skip ?_ | refine Awp.exit ?_ | refine Awp.ret ?_ | refine Awp.condT rfl ?_ | refine Awp.condF rfl ?_) | refine qj0 ?_ | refine qj1 ?_ | refine qj2 ?_ | refine qhh ?_ | refine qhi ?_ | refine qhj ?_ | refine qhk rfl ?_ | ((first | ((first | with_reducible refine AL.id_ ?_ | with_reducible refine AE.id_ ?_);(fail_if_success refine W.on rfl ?_);refine W.p rfl rfl (by simp only[AV.put];rfl) (by simp only[AV.put];rfl) (fun hb=>?_) (fun hb=>?_)) | (with_reducible refine Awp.id_ ?_;refine Awp.cond _ rfl (fun hb=>?_) (fun hb=>?_)))<;>(try simp only[z1,z2,z3,z4,z5,z6,z7,z8,y5,y6,y7,y8,z9,x1,x2,x3,x4,x5,x6,x7,x8] at hb;try (exfalso;omega)))))
 refine Awp.loopM [4,5,10,11,12,13,14,15,16,17,18,19,20,21,22,23,24,25,26,27,28,29,30] [9] (fun n vs H=>∃(k:Nat) (X':Nat→Prop),n+k=ss.length∧vs=[.int k]∧H=[.nodef,.ghost X' (J (qgp ss k))]) ss.length ⟨0,X,rfl,rfl,rfl⟩ ?_
 rintro n ju vs H ⟨k,X',hk,rfl,rfl⟩
 (refine Awp.slots (by first | (simp only[putl,mask,AV.put];rfl) | rfl) ?_)
 by_cases hlt:k<ss.length
 ·have hrow:=hra k hlt
  have hYk:=Lib.hid (hY.out k hlt)
  have hNk:=hN.out k hlt
  obtain ⟨hb1,hb2⟩:=hbd _ (List.getElem_mem hlt)
  generalize ss[k].1=hu at *
  generalize ss[k].2.1=lo at *
  generalize ss[k].2.2=hi at *
  (repeat' (first | ((first | with_reducible refine AL.id_ ?_ | with_reducible refine AE.id_ ?_);first | refine AL.build0 hF rfl rfl rfl (fun b=>⟨_,(by simp only[AV.put];rfl),?_⟩) | refine W.s rfl rfl (by first | exact AY.bx rfl (by simp only[evO,AV.get];rfl) rfl | exact AY.mkFn rfl (by simp only[List.map_cons,List.map_nil,evO,AV.get];rfl) | exact AY.mkFn1 rfl (by simp only[evO,AV.get];rfl) (by simp only[List.map_cons,List.map_nil,evO,AV.get];rfl) | exact hEQ rfl rfl rfl | exact Step2.sound (by first | (((first | (apply Step2.a;constructor) | (apply Step2.b;constructor))<;>first | infer_instance | skip)<;>(first | infer_instance | (refine w64c ?_;omega) | (refine qns ?_;omega) | (refine qlz ?_;omega) | (refine qlA ?_;omega) | (refine qnp ?_;omega) | ((repeat (first | exact .head _ | refine .tail _ ?_));done) | assumption | (simp only[List.drop_succ_cons,List.drop_zero,List.length_map,Nat.zero_add,Nat.mul_one];rfl) | rfl | omega | (simp;done))) | fail) rfl | exact AY.call rfl rfl _ rfl (by fail) | exact AY.slice1 rfl rfl rfl (by rfl) (by first | (simp;done) | fail) | exact AY.callF rfl _ _ rfl _ rfl (by fail) | exact AY.old1k 0 rfl rfl rfl (by first | assumption | rfl) | exact AY.old1k 1 rfl rfl rfl (by first | assumption | rfl) | exact AY.old1k 2 rfl rfl rfl (by first | assumption | rfl) | exact AY.oldNk 0 rfl rfl rfl (by first | omega | (simp;omega)) (by first | assumption | rfl) | exact AY.oldNk 1 rfl rfl rfl (by first | omega | (simp;omega)) (by first | assumption | rfl)) (by simp only[AV.put];rfl) ?_ | (refine AL.nilK (hK _ _ ?_);clear hK K) | (refine AE.nil (hK _ ?_);clear hK K) | refine W.k rfl rfl (by simp only[AV.put];rfl) ?_ | refine AL.unguardS rfl rfl ?_ | refine AL.al hF rfl rfl rfl (by first | (simp only[Value.cells,List.map_cons,List.map_nil];rfl) | rfl) (fun b=>⟨_,(by simp only[AV.put];rfl),?_⟩) | refine AL.st1 hF rfl rfl rfl rfl (by simp only[evO,AV.get];rfl) (by first | exact qhM | exact qhN | exact qhO | exact qhP | exact qhQ | exact qhR | exact qhS | exact qhT) (by rfl) rfl (by rfl) (by first | (simp;done) | (simp;omega) | omega) (by simp only[List.set];rfl) ?_ | refine AL.stW hF rfl rfl rfl rfl (by simp only[evO,AV.get];rfl) (by first | exact qhM | exact qhN | exact qhO | exact qhP | exact qhQ | exact qhR | exact qhS | exact qhT) (by rfl) (by rfl) (by rfl) (by first | rfl | simp) (by simp only[List.set];rfl) ?_) | (with_reducible refine Awp.id_ ?_;first | refine Awp.seq ?_ | refine Awp.regionK (by first | (simp only[AV.putO,AV.put];rfl) | rfl) (fun K hK=>?_) | refine Awp.drawE (by first | (simp only[AV.putO,AV.put];rfl) | rfl) mixed rfl (by kernel_rfl) (fun K hK=>?_) | refine Awp.block ?_ | refine Awp.skip ?_ | refine Awp.exit ?_ | refine Awp.ret ?_ | refine Awp.condT rfl ?_ | refine Awp.condF rfl ?_) | refine qj0 ?_ | refine qj1 ?_ | refine qj2 ?_ | refine qhh ?_ | refine qhi ?_ | refine qhj ?_ | refine qhk rfl ?_ | ((first | ((first | with_reducible refine AL.id_ ?_ | with_reducible refine AE.id_ ?_);(fail_if_success refine W.on rfl ?_);refine W.p rfl rfl (by simp only[AV.put];rfl) (by simp only[AV.put];rfl) (fun hb=>?_) (fun hb=>?_)) | (with_reducible refine Awp.id_ ?_;refine Awp.cond _ rfl (fun hb=>?_) (fun hb=>?_)))<;>(try simp only[z1,z2,z3,z4,z5,z6,z7,z8,y5,y6,y7,y8,z9,x1,x2,x3,x4,x5,x6,x7,x8] at hb;try (exfalso;omega)))))
  refine Awp.loopM [16,17,18,19,20,21,22,23,24,25,26,27,28,29] [5] (fun n vs H=>∃(j:Nat) (X3:Nat→Prop),n+j=(hi+1-lo).toNat∧vs=[.int (lo+j)]∧H=[.blk b 84 [.int hu,.int lo,.int hi],.nodef,.ghost X3 (J (qgp ss k+j))]) (hi+1-lo).toNat ⟨0,X',by omega,by simp;rfl,rfl⟩ ?_
  rintro n1 ju1 vs1 H1 ⟨j,X3,hj,rfl,rfl⟩
  (refine Awp.slots (by first | (simp only[putl,mask,AV.put];rfl) | rfl) ?_)
  by_cases hlt2:j<(hi+1-lo).toNat
  ·have hle:lo+j≤hi:=by omega
   have hye:=hYk.out j hlt2
   (repeat' (first | ((first | with_reducible refine AL.id_ ?_ | with_reducible refine AE.id_ ?_);first | refine AL.build0 hF rfl rfl rfl (fun b=>⟨_,(by simp only[AV.put];rfl),?_⟩) | refine W.s rfl rfl (by first | exact AY.bx rfl (by simp only[evO,AV.get];rfl) rfl | exact AY.mkFn rfl (by simp only[List.map_cons,List.map_nil,evO,AV.get];rfl) | exact AY.mkFn1 rfl (by simp only[evO,AV.get];rfl) (by simp only[List.map_cons,List.map_nil,evO,AV.get];rfl) | exact AY.build rfl (by simp only[List.map_cons,List.map_nil,evO,AV.get];rfl) (by simp only[List.map_cons,List.map_nil];repeat (first | exact Places.nil | apply Places.cons)) (by first | (simp only[zip3,qb0,qcV,qbo,qu,qez,List.map_cons,List.map_nil,List.length_cons,List.length_nil,List.take_succ_cons,List.take_zero,List.drop_succ_cons,List.drop_zero,List.replicate_succ,List.replicate_zero,List.cons_append,List.nil_append,List.append_nil,List.drop_nil,List.take_nil,List.toList_toArray,Nat.sub_zero,Nat.reduceSub,Nat.reduceAdd,Nat.reduceMul,Nat.zero_mul,Nat.one_mul,Nat.mul_one,Nat.zero_add,Nat.le_refl,Nat.reduceLeDiff,and_self,true_and,and_true,if_true];rfl) | rfl) | exact AY.buildS rfl (by simp only[List.map_cons,List.map_nil,evO,AV.get];rfl) (by first | rfl | decide) (by omega) (by first | (simp only[zip3,qb0,qcV,qbo,qu,qez,List.map_cons,List.map_nil,List.length_cons,List.length_nil,List.take_succ_cons,List.take_zero,List.drop_succ_cons,List.drop_zero,List.replicate_succ,List.replicate_zero,List.cons_append,List.nil_append,List.append_nil,List.drop_nil,List.take_nil,List.toList_toArray,Nat.sub_zero,Nat.reduceSub,Nat.reduceAdd,Nat.reduceMul,Nat.zero_mul,Nat.one_mul,Nat.mul_one,Nat.zero_add,Nat.le_refl,Nat.reduceLeDiff,and_self,true_and,and_true,if_true];rfl) | rfl) (by first | (simp only[zip3,qb0,qcV,qbo,qu,qez,List.map_cons,List.map_nil,List.length_cons,List.length_nil,List.take_succ_cons,List.take_zero,List.drop_succ_cons,List.drop_zero,List.replicate_succ,List.replicate_zero,List.cons_append,List.nil_append,List.append_nil,List.drop_nil,List.take_nil,List.toList_toArray,Nat.sub_zero,Nat.reduceSub,Nat.reduceAdd,Nat.reduceMul,Nat.zero_mul,Nat.one_mul,Nat.mul_one,Nat.zero_add,Nat.le_refl,Nat.reduceLeDiff,and_self,true_and,and_true,if_true];rfl) | rfl) | exact hEQ rfl rfl rfl | exact Step2.sound (by first | (((first | (apply Step2.a;constructor) | (apply Step2.b;constructor))<;>first | infer_instance | skip)<;>(first | infer_instance | (refine w64c ?_;omega) | (refine qns ?_;omega) | (refine qlz ?_;omega) | (refine qlA ?_;omega) | (refine qnp ?_;omega) | ((repeat (first | exact .head _ | refine .tail _ ?_));done) | assumption | (simp only[List.drop_succ_cons,List.drop_zero,List.length_map,Nat.zero_add,Nat.mul_one];rfl) | rfl | omega | (simp;done))) | fail) rfl | exact AY.call rfl rfl _ rfl (by fail) | exact AY.slice1 rfl rfl rfl (by rfl) (by first | (simp;done) | fail) | exact AY.callF rfl _ _ rfl _ rfl (by fail) | exact AY.old1k 0 rfl rfl rfl (by first | assumption | rfl) | exact AY.old1k 1 rfl rfl rfl (by first | assumption | rfl) | exact AY.old1k 2 rfl rfl rfl (by first | assumption | rfl) | exact AY.oldNk 0 rfl rfl rfl (by first | omega | (simp;omega)) (by first | assumption | rfl) | exact AY.oldNk 1 rfl rfl rfl (by first | omega | (simp;omega)) (by first | assumption | rfl)) (by simp only[AV.put];rfl) ?_ | (refine AL.nilK (hK _ _ ?_);clear hK K) | (refine AE.nil (hK _ ?_);clear hK K) | refine W.k rfl rfl (by simp only[AV.put];rfl) ?_ | refine AL.unguardS rfl rfl ?_ | refine AL.al hF rfl rfl rfl (by first | (simp only[Value.cells,List.map_cons,List.map_nil];rfl) | rfl) (fun b=>⟨_,(by simp only[AV.put];rfl),?_⟩) | refine AL.st1 hF rfl rfl rfl rfl (by simp only[evO,AV.get];rfl) (by first | exact qhM | exact qhN | exact qhO | exact qhP | exact qhQ | exact qhR | exact qhS | exact qhT) (by rfl) rfl (by rfl) (by first | (simp;done) | (simp;omega) | omega) (by simp only[List.set];rfl) ?_ | refine AL.stW hF rfl rfl rfl rfl (by simp only[evO,AV.get];rfl) (by first | exact qhM | exact qhN | exact qhO | exact qhP | exact qhQ | exact qhR | exact qhS | exact qhT) (by rfl) (by rfl) (by rfl) (by first | rfl | simp) (by simp only[List.set];rfl) ?_) | (with_reducible refine Awp.id_ ?_;first | refine Awp.seq ?_ | refine Awp.regionK (by first | (simp only[AV.putO,AV.put];rfl) | rfl) (fun K hK=>?_) | refine Awp.drawE (by first | (simp only[AV.putO,AV.put];rfl) | rfl) mixed rfl (by kernel_rfl) (fun K hK=>?_) | refine Awp.block ?_ | refine Awp.skip ?_ | refine Awp.exit ?_ | refine Awp.ret ?_ | refine Awp.condT rfl ?_ | refine Awp.condF rfl ?_) | refine qj0 ?_ | refine qj1 ?_ | refine qj2 ?_ | refine qhh ?_ | refine qhi ?_ | refine qhj ?_ | refine qhk rfl ?_ | ((first | ((first | with_reducible refine AL.id_ ?_ | with_reducible refine AE.id_ ?_);(fail_if_success refine W.on rfl ?_);refine W.p rfl rfl (by simp only[AV.put];rfl) (by simp only[AV.put];rfl) (fun hb=>?_) (fun hb=>?_)) | (with_reducible refine Awp.id_ ?_;refine Awp.cond _ rfl (fun hb=>?_) (fun hb=>?_)))<;>(try simp only[z1,z2,z3,z4,z5,z6,z7,z8,y5,y6,y7,y8,z9,x1,x2,x3,x4,x5,x6,x7,x8] at hb;try (exfalso;omega)))))
   have hgho:∀i e,([HE.blk b 84 [.int hu,.int lo,.int hi],.nodef,.ghost X3 (J (qgp ss k+j))])[i]?=some e→e.isGhost→i=2:=fun i e h1 h2=>by
    match i,h1 with
    | 0,h1=>cases h1;exact h2.elim
    | 1,h1=>cases h1;exact h2.elim
    | 2,_=>rfl
   refine AL.yield 2 rfl rfl rfl rfl _ rfl rfl hgho (by simp) (fun b hA=>hT b fun h=>(hA.1 h).1) hye (hcJ _) hcx (fun X4=>?_) (fun X4=>?_)
   ·refine AL.norm (by simp only[AV.put];rfl) rfl ?_
    (repeat' (first | ((first | with_reducible refine AL.id_ ?_ | with_reducible refine AE.id_ ?_);first | refine AL.build0 hF rfl rfl rfl (fun b=>⟨_,(by simp only[AV.put];rfl),?_⟩) | refine W.s rfl rfl (by first | exact AY.bx rfl (by simp only[evO,AV.get];rfl) rfl | exact AY.mkFn rfl (by simp only[List.map_cons,List.map_nil,evO,AV.get];rfl) | exact AY.mkFn1 rfl (by simp only[evO,AV.get];rfl) (by simp only[List.map_cons,List.map_nil,evO,AV.get];rfl) | exact AY.build rfl (by simp only[List.map_cons,List.map_nil,evO,AV.get];rfl) (by simp only[List.map_cons,List.map_nil];repeat (first | exact Places.nil | apply Places.cons)) (by first | (simp only[zip3,qb0,qcV,qbo,qu,qez,List.map_cons,List.map_nil,List.length_cons,List.length_nil,List.take_succ_cons,List.take_zero,List.drop_succ_cons,List.drop_zero,List.replicate_succ,List.replicate_zero,List.cons_append,List.nil_append,List.append_nil,List.drop_nil,List.take_nil,List.toList_toArray,Nat.sub_zero,Nat.reduceSub,Nat.reduceAdd,Nat.reduceMul,Nat.zero_mul,Nat.one_mul,Nat.mul_one,Nat.zero_add,Nat.le_refl,Nat.reduceLeDiff,and_self,true_and,and_true,if_true];rfl) | rfl) | exact AY.buildS rfl (by simp only[List.map_cons,List.map_nil,evO,AV.get];rfl) (by first | rfl | decide) (by omega) (by first | (simp only[zip3,qb0,qcV,qbo,qu,qez,List.map_cons,List.map_nil,List.length_cons,List.length_nil,List.take_succ_cons,List.take_zero,List.drop_succ_cons,List.drop_zero,List.replicate_succ,List.replicate_zero,List.cons_append,List.nil_append,List.append_nil,List.drop_nil,List.take_nil,List.toList_toArray,Nat.sub_zero,Nat.reduceSub,Nat.reduceAdd,Nat.reduceMul,Nat.zero_mul,Nat.one_mul,Nat.mul_one,Nat.zero_add,Nat.le_refl,Nat.reduceLeDiff,and_self,true_and,and_true,if_true];rfl) | rfl) (by first | (simp only[zip3,qb0,qcV,qbo,qu,qez,List.map_cons,List.map_nil,List.length_cons,List.length_nil,List.take_succ_cons,List.take_zero,List.drop_succ_cons,List.drop_zero,List.replicate_succ,List.replicate_zero,List.cons_append,List.nil_append,List.append_nil,List.drop_nil,List.take_nil,List.toList_toArray,Nat.sub_zero,Nat.reduceSub,Nat.reduceAdd,Nat.reduceMul,Nat.zero_mul,Nat.one_mul,Nat.mul_one,Nat.zero_add,Nat.le_refl,Nat.reduceLeDiff,and_self,true_and,and_true,if_true];rfl) | rfl) | exact hEQ rfl rfl rfl | exact Step2.sound (by first | (((first | (apply Step2.a;constructor) | (apply Step2.b;constructor))<;>first | infer_instance | skip)<;>(first | infer_instance | (refine w64c ?_;omega) | (refine qns ?_;omega) | (refine qlz ?_;omega) | (refine qlA ?_;omega) | (refine qnp ?_;omega) | ((repeat (first | exact .head _ | refine .tail _ ?_));done) | assumption | (simp only[List.drop_succ_cons,List.drop_zero,List.length_map,Nat.zero_add,Nat.mul_one];rfl) | rfl | omega | (simp;done))) | fail) rfl | exact AY.call rfl rfl _ rfl (by fail) | exact AY.slice1 rfl rfl rfl (by rfl) (by first | (simp;done) | fail) | exact AY.callF rfl _ _ rfl _ rfl (by fail) | exact AY.old1k 0 rfl rfl rfl (by first | assumption | rfl) | exact AY.old1k 1 rfl rfl rfl (by first | assumption | rfl) | exact AY.old1k 2 rfl rfl rfl (by first | assumption | rfl) | exact AY.oldNk 0 rfl rfl rfl (by first | omega | (simp;omega)) (by first | assumption | rfl) | exact AY.oldNk 1 rfl rfl rfl (by first | omega | (simp;omega)) (by first | assumption | rfl)) (by simp only[AV.put];rfl) ?_ | (refine AL.nilK (hK _ _ ?_);clear hK K) | (refine AE.nil (hK _ ?_);clear hK K) | refine W.k rfl rfl (by simp only[AV.put];rfl) ?_ | refine AL.unguardS rfl rfl ?_ | refine AL.al hF rfl rfl rfl (by first | (simp only[Value.cells,List.map_cons,List.map_nil];rfl) | rfl) (fun b=>⟨_,(by simp only[AV.put];rfl),?_⟩) | refine AL.st1 hF rfl rfl rfl rfl (by simp only[evO,AV.get];rfl) (by first | exact qhM | exact qhN | exact qhO | exact qhP | exact qhQ | exact qhR | exact qhS | exact qhT) (by rfl) rfl (by rfl) (by first | (simp;done) | (simp;omega) | omega) (by simp only[List.set];rfl) ?_ | refine AL.stW hF rfl rfl rfl rfl (by simp only[evO,AV.get];rfl) (by first | exact qhM | exact qhN | exact qhO | exact qhP | exact qhQ | exact qhR | exact qhS | exact qhT) (by rfl) (by rfl) (by rfl) (by first | rfl | simp) (by simp only[List.set];rfl) ?_) | (with_reducible refine Awp.id_ ?_;first | refine Awp.seq ?_ | refine Awp.regionK (by first | (simp only[AV.putO,AV.put];rfl) | rfl) (fun K hK=>?_) | refine Awp.drawE (by first | (simp only[AV.putO,AV.put];rfl) | rfl) mixed rfl (by kernel_rfl) (fun K hK=>?_) | refine Awp.block ?_ | refine Awp.skip ?_ | refine Awp.exit ?_ | refine Awp.ret ?_ | refine Awp.condT rfl ?_ | refine Awp.condF rfl ?_) | refine qj0 ?_ | refine qj1 ?_ | refine qj2 ?_ | refine qhh ?_ | refine qhi ?_ | refine qhj ?_ | refine qhk rfl ?_ | ((first | ((first | with_reducible refine AL.id_ ?_ | with_reducible refine AE.id_ ?_);(fail_if_success refine W.on rfl ?_);refine W.p rfl rfl (by simp only[AV.put];rfl) (by simp only[AV.put];rfl) (fun hb=>?_) (fun hb=>?_)) | (with_reducible refine Awp.id_ ?_;refine Awp.cond _ rfl (fun hb=>?_) (fun hb=>?_)))<;>(try simp only[z1,z2,z3,z4,z5,z6,z7,z8,y5,y6,y7,y8,z9,x1,x2,x3,x4,x5,x6,x7,x8] at hb;try (exfalso;omega)))))
    (refine qyd (n1-1) (by first | (simp only[AV.putO,AV.put];rfl) | rfl) (by omega) ?_ (by simp only[List.map,AV.get,mask,putl,AV.put]))
    exact ⟨j+1,X4,by omega,qx1 (by omega),rfl⟩
   ·refine AL.norm (by simp only[AV.put];rfl) rfl ?_
    (repeat' (first | ((first | with_reducible refine AL.id_ ?_ | with_reducible refine AE.id_ ?_);first | refine AL.build0 hF rfl rfl rfl (fun b=>⟨_,(by simp only[AV.put];rfl),?_⟩) | refine W.s rfl rfl (by first | exact AY.bx rfl (by simp only[evO,AV.get];rfl) rfl | exact AY.mkFn rfl (by simp only[List.map_cons,List.map_nil,evO,AV.get];rfl) | exact AY.mkFn1 rfl (by simp only[evO,AV.get];rfl) (by simp only[List.map_cons,List.map_nil,evO,AV.get];rfl) | exact AY.build rfl (by simp only[List.map_cons,List.map_nil,evO,AV.get];rfl) (by simp only[List.map_cons,List.map_nil];repeat (first | exact Places.nil | apply Places.cons)) (by first | (simp only[zip3,qb0,qcV,qbo,qu,qez,List.map_cons,List.map_nil,List.length_cons,List.length_nil,List.take_succ_cons,List.take_zero,List.drop_succ_cons,List.drop_zero,List.replicate_succ,List.replicate_zero,List.cons_append,List.nil_append,List.append_nil,List.drop_nil,List.take_nil,List.toList_toArray,Nat.sub_zero,Nat.reduceSub,Nat.reduceAdd,Nat.reduceMul,Nat.zero_mul,Nat.one_mul,Nat.mul_one,Nat.zero_add,Nat.le_refl,Nat.reduceLeDiff,and_self,true_and,and_true,if_true];rfl) | rfl) | exact AY.buildS rfl (by simp only[List.map_cons,List.map_nil,evO,AV.get];rfl) (by first | rfl | decide) (by omega) (by first | (simp only[zip3,qb0,qcV,qbo,qu,qez,List.map_cons,List.map_nil,List.length_cons,List.length_nil,List.take_succ_cons,List.take_zero,List.drop_succ_cons,List.drop_zero,List.replicate_succ,List.replicate_zero,List.cons_append,List.nil_append,List.append_nil,List.drop_nil,List.take_nil,List.toList_toArray,Nat.sub_zero,Nat.reduceSub,Nat.reduceAdd,Nat.reduceMul,Nat.zero_mul,Nat.one_mul,Nat.mul_one,Nat.zero_add,Nat.le_refl,Nat.reduceLeDiff,and_self,true_and,and_true,if_true];rfl) | rfl) (by first | (simp only[zip3,qb0,qcV,qbo,qu,qez,List.map_cons,List.map_nil,List.length_cons,List.length_nil,List.take_succ_cons,List.take_zero,List.drop_succ_cons,List.drop_zero,List.replicate_succ,List.replicate_zero,List.cons_append,List.nil_append,List.append_nil,List.drop_nil,List.take_nil,List.toList_toArray,Nat.sub_zero,Nat.reduceSub,Nat.reduceAdd,Nat.reduceMul,Nat.zero_mul,Nat.one_mul,Nat.mul_one,Nat.zero_add,Nat.le_refl,Nat.reduceLeDiff,and_self,true_and,and_true,if_true];rfl) | rfl) | exact hEQ rfl rfl rfl | exact Step2.sound (by first | (((first | (apply Step2.a;constructor) | (apply Step2.b;constructor))<;>first | infer_instance | skip)<;>(first | infer_instance | (refine w64c ?_;omega) | (refine qns ?_;omega) | (refine qlz ?_;omega) | (refine qlA ?_;omega) | (refine qnp ?_;omega) | ((repeat (first | exact .head _ | refine .tail _ ?_));done) | assumption | (simp only[List.drop_succ_cons,List.drop_zero,List.length_map,Nat.zero_add,Nat.mul_one];rfl) | rfl | omega | (simp;done))) | fail) rfl | exact AY.call rfl rfl _ rfl (by fail) | exact AY.slice1 rfl rfl rfl (by rfl) (by first | (simp;done) | fail) | exact AY.callF rfl _ _ rfl _ rfl (by fail) | exact AY.old1k 0 rfl rfl rfl (by first | assumption | rfl) | exact AY.old1k 1 rfl rfl rfl (by first | assumption | rfl) | exact AY.old1k 2 rfl rfl rfl (by first | assumption | rfl) | exact AY.oldNk 0 rfl rfl rfl (by first | omega | (simp;omega)) (by first | assumption | rfl) | exact AY.oldNk 1 rfl rfl rfl (by first | omega | (simp;omega)) (by first | assumption | rfl)) (by simp only[AV.put];rfl) ?_ | (refine AL.nilK (hK _ _ ?_);clear hK K) | (refine AE.nil (hK _ ?_);clear hK K) | refine W.k rfl rfl (by simp only[AV.put];rfl) ?_ | refine AL.unguardS rfl rfl ?_ | refine AL.al hF rfl rfl rfl (by first | (simp only[Value.cells,List.map_cons,List.map_nil];rfl) | rfl) (fun b=>⟨_,(by simp only[AV.put];rfl),?_⟩) | refine AL.st1 hF rfl rfl rfl rfl (by simp only[evO,AV.get];rfl) (by first | exact qhM | exact qhN | exact qhO | exact qhP | exact qhQ | exact qhR | exact qhS | exact qhT) (by rfl) rfl (by rfl) (by first | (simp;done) | (simp;omega) | omega) (by simp only[List.set];rfl) ?_ | refine AL.stW hF rfl rfl rfl rfl (by simp only[evO,AV.get];rfl) (by first | exact qhM | exact qhN | exact qhO | exact qhP | exact qhQ | exact qhR | exact qhS | exact qhT) (by rfl) (by rfl) (by rfl) (by first | rfl | simp) (by simp only[List.set];rfl) ?_) | (with_reducible refine Awp.id_ ?_;first | refine Awp.seq ?_ | refine Awp.regionK (by first | (simp only[AV.putO,AV.put];rfl) | rfl) (fun K hK=>?_) | refine Awp.drawE (by first | (simp only[AV.putO,AV.put];rfl) | rfl) mixed rfl (by kernel_rfl) (fun K hK=>?_) | refine Awp.block ?_ | refine Awp.skip ?_ | refine Awp.exit ?_ | refine Awp.ret ?_ | refine Awp.condT rfl ?_ | refine Awp.condF rfl ?_) | refine qj0 ?_ | refine qj1 ?_ | refine qj2 ?_ | refine qhh ?_ | refine qhi ?_ | refine qhj ?_ | refine qhk rfl ?_ | ((first | ((first | with_reducible refine AL.id_ ?_ | with_reducible refine AE.id_ ?_);(fail_if_success refine W.on rfl ?_);refine W.p rfl rfl (by simp only[AV.put];rfl) (by simp only[AV.put];rfl) (fun hb=>?_) (fun hb=>?_)) | (with_reducible refine Awp.id_ ?_;refine Awp.cond _ rfl (fun hb=>?_) (fun hb=>?_)))<;>(try simp only[z1,z2,z3,z4,z5,z6,z7,z8,y5,y6,y7,y8,z9,x1,x2,x3,x4,x5,x6,x7,x8] at hb;try (exfalso;omega)))))
    exact qvs rfl ⟨X4,.inr (List.mem_of_getElem? (i:=2) rfl)⟩
  ·have hle:¬(lo+j≤hi):=by omega
   (repeat' (first | ((first | with_reducible refine AL.id_ ?_ | with_reducible refine AE.id_ ?_);first | refine AL.build0 hF rfl rfl rfl (fun b=>⟨_,(by simp only[AV.put];rfl),?_⟩) | refine W.s rfl rfl (by first | exact AY.bx rfl (by simp only[evO,AV.get];rfl) rfl | exact AY.mkFn rfl (by simp only[List.map_cons,List.map_nil,evO,AV.get];rfl) | exact AY.mkFn1 rfl (by simp only[evO,AV.get];rfl) (by simp only[List.map_cons,List.map_nil,evO,AV.get];rfl) | exact hEQ rfl rfl rfl | exact Step2.sound (by first | (((first | (apply Step2.a;constructor) | (apply Step2.b;constructor))<;>first | infer_instance | skip)<;>(first | infer_instance | (refine w64c ?_;omega) | (refine qns ?_;omega) | (refine qlz ?_;omega) | (refine qlA ?_;omega) | (refine qnp ?_;omega) | ((repeat (first | exact .head _ | refine .tail _ ?_));done) | assumption | (simp only[List.drop_succ_cons,List.drop_zero,List.length_map,Nat.zero_add,Nat.mul_one];rfl) | rfl | omega | (simp;done))) | fail) rfl | exact AY.call rfl rfl _ rfl (by fail) | exact AY.slice1 rfl rfl rfl (by rfl) (by first | (simp;done) | fail) | exact AY.callF rfl _ _ rfl _ rfl (by fail) | exact AY.old1k 0 rfl rfl rfl (by first | assumption | rfl) | exact AY.old1k 1 rfl rfl rfl (by first | assumption | rfl) | exact AY.old1k 2 rfl rfl rfl (by first | assumption | rfl) | exact AY.oldNk 0 rfl rfl rfl (by first | omega | (simp;omega)) (by first | assumption | rfl) | exact AY.oldNk 1 rfl rfl rfl (by first | omega | (simp;omega)) (by first | assumption | rfl)) (by simp only[AV.put];rfl) ?_ | (refine AL.nilK (hK _ _ ?_);clear hK K) | (refine AE.nil (hK _ ?_);clear hK K) | refine W.k rfl rfl (by simp only[AV.put];rfl) ?_ | refine AL.unguardS rfl rfl ?_ | refine AL.al hF rfl rfl rfl (by first | (simp only[Value.cells,List.map_cons,List.map_nil];rfl) | rfl) (fun b=>⟨_,(by simp only[AV.put];rfl),?_⟩) | refine AL.st1 hF rfl rfl rfl rfl (by simp only[evO,AV.get];rfl) (by first | exact qhM | exact qhN | exact qhO | exact qhP | exact qhQ | exact qhR | exact qhS | exact qhT) (by rfl) rfl (by rfl) (by first | (simp;done) | (simp;omega) | omega) (by simp only[List.set];rfl) ?_ | refine AL.stW hF rfl rfl rfl rfl (by simp only[evO,AV.get];rfl) (by first | exact qhM | exact qhN | exact qhO | exact qhP | exact qhQ | exact qhR | exact qhS | exact qhT) (by rfl) (by rfl) (by rfl) (by first | rfl | simp) (by simp only[List.set];rfl) ?_) | (with_reducible refine Awp.id_ ?_;first | refine Awp.seq ?_ | refine Awp.regionK (by first | (simp only[AV.putO,AV.put];rfl) | rfl) (fun K hK=>?_) | refine Awp.drawE (by first | (simp only[AV.putO,AV.put];rfl) | rfl) mixed rfl (by kernel_rfl) (fun K hK=>?_) | refine Awp.block ?_ | refine Awp.skip ?_ | refine Awp.exit ?_ | refine Awp.ret ?_ | refine Awp.condT rfl ?_ | refine Awp.condF rfl ?_) | refine qj0 ?_ | refine qj1 ?_ | refine qj2 ?_ | refine qhh ?_ | refine qhi ?_ | refine qhj ?_ | refine qhk rfl ?_ | ((first | ((first | with_reducible refine AL.id_ ?_ | with_reducible refine AE.id_ ?_);(fail_if_success refine W.on rfl ?_);refine W.p rfl rfl (by simp only[AV.put];rfl) (by simp only[AV.put];rfl) (fun hb=>?_) (fun hb=>?_)) | (with_reducible refine Awp.id_ ?_;refine Awp.cond _ rfl (fun hb=>?_) (fun hb=>?_)))<;>(try simp only[z1,z2,z3,z4,z5,z6,z7,z8,y5,y6,y7,y8,z9,x1,x2,x3,x4,x5,x6,x7,x8] at hb;try (exfalso;omega)))))
   (refine qwK (n-1) (List.sublist_cons_self _ _) (by first | (simp only[AV.putO,AV.put];rfl) | rfl) (by omega) ?_ (by simp only[List.map,AV.get,mask,putl,AV.put]))
   exact ⟨k+1,X3,by omega,qx1 (by omega),by rw[hNk,show (hi+1-lo).toNat=j by omega]⟩
 ·(repeat' (first | ((first | with_reducible refine AL.id_ ?_ | with_reducible refine AE.id_ ?_);first | refine AL.build0 hF rfl rfl rfl (fun b=>⟨_,(by simp only[AV.put];rfl),?_⟩) | refine W.s rfl rfl (by first | exact AY.bx rfl (by simp only[evO,AV.get];rfl) rfl | exact AY.mkFn rfl (by simp only[List.map_cons,List.map_nil,evO,AV.get];rfl) | exact AY.mkFn1 rfl (by simp only[evO,AV.get];rfl) (by simp only[List.map_cons,List.map_nil,evO,AV.get];rfl) | exact hEQ rfl rfl rfl | exact Step2.sound (by first | (((first | (apply Step2.a;constructor) | (apply Step2.b;constructor))<;>first | infer_instance | skip)<;>(first | infer_instance | (refine w64c ?_;omega) | (refine qns ?_;omega) | (refine qlz ?_;omega) | (refine qlA ?_;omega) | (refine qnp ?_;omega) | ((repeat (first | exact .head _ | refine .tail _ ?_));done) | assumption | (simp only[List.drop_succ_cons,List.drop_zero,List.length_map,Nat.zero_add,Nat.mul_one];rfl) | rfl | omega | (simp;done))) | fail) rfl | exact AY.call rfl rfl _ rfl (by fail) | exact AY.slice1 rfl rfl rfl (by rfl) (by first | (simp;done) | fail) | exact AY.callF rfl _ _ rfl _ rfl (by fail) | exact AY.old1k 0 rfl rfl rfl (by first | assumption | rfl) | exact AY.old1k 1 rfl rfl rfl (by first | assumption | rfl) | exact AY.old1k 2 rfl rfl rfl (by first | assumption | rfl) | exact AY.oldNk 0 rfl rfl rfl (by first | omega | (simp;omega)) (by first | assumption | rfl) | exact AY.oldNk 1 rfl rfl rfl (by first | omega | (simp;omega)) (by first | assumption | rfl)) (by simp only[AV.put];rfl) ?_ | (refine AL.nilK (hK _ _ ?_);clear hK K) | (refine AE.nil (hK _ ?_);clear hK K) | refine W.k rfl rfl (by simp only[AV.put];rfl) ?_ | refine AL.unguardS rfl rfl ?_ | refine AL.al hF rfl rfl rfl (by first | (simp only[Value.cells,List.map_cons,List.map_nil];rfl) | rfl) (fun b=>⟨_,(by simp only[AV.put];rfl),?_⟩) | refine AL.st1 hF rfl rfl rfl rfl (by simp only[evO,AV.get];rfl) (by first | exact qhM | exact qhN | exact qhO | exact qhP | exact qhQ | exact qhR | exact qhS | exact qhT) (by rfl) rfl (by rfl) (by first | (simp;done) | (simp;omega) | omega) (by simp only[List.set];rfl) ?_ | refine AL.stW hF rfl rfl rfl rfl (by simp only[evO,AV.get];rfl) (by first | exact qhM | exact qhN | exact qhO | exact qhP | exact qhQ | exact qhR | exact qhS | exact qhT) (by rfl) (by rfl) (by rfl) (by first | rfl | simp) (by simp only[List.set];rfl) ?_) | (with_reducible refine Awp.id_ ?_;first | refine Awp.seq ?_ | refine Awp.regionK (by first | (simp only[AV.putO,AV.put];rfl) | rfl) (fun K hK=>?_) | refine Awp.drawE (by first | (simp only[AV.putO,AV.put];rfl) | rfl) mixed rfl (by kernel_rfl) (fun K hK=>?_) | refine Awp.block ?_ | refine Awp.skip ?_ | refine Awp.exit ?_ | refine Awp.ret ?_ | refine Awp.condT rfl ?_ | refine Awp.condF rfl ?_) | refine qj0 ?_ | refine qj1 ?_ | refine qj2 ?_ | refine qhh ?_ | refine qhi ?_ | refine qhj ?_ | refine qhk rfl ?_ | ((first | ((first | with_reducible refine AL.id_ ?_ | with_reducible refine AE.id_ ?_);(fail_if_success refine W.on rfl ?_);refine W.p rfl rfl (by simp only[AV.put];rfl) (by simp only[AV.put];rfl) (fun hb=>?_) (fun hb=>?_)) | (with_reducible refine Awp.id_ ?_;refine Awp.cond _ rfl (fun hb=>?_) (fun hb=>?_)))<;>(try simp only[z1,z2,z3,z4,z5,z6,z7,z8,y5,y6,y7,y8,z9,x1,x2,x3,x4,x5,x6,x7,x8] at hb;try (exfalso;omega)))))
  exact qwM rfl ⟨X',.inl (by rw[show ss.length=k by omega];exact List.mem_of_getElem? (i:=1) rfl)⟩
def qsm:Itr Tryz.prog:=⟨155,[T77],[T150],fun x=>qrc x.1.2.2.2.2,fun x l h=>qxz x l h⟩
section
def qkW(n:Nat):CL Tryz.prog:=⟨[],[],0,fun _=>false⟩
def qn8(n:Nat):Nat→St→PT (DEx×St):=fun _ _=>.fail
theorem qtu(n:Nat):qO (qkW n).c (qi Tryz.f121) 0=[]:=by kernel_rfl
theorem qtv:Tryz.f121.body=some (qi Tryz.f121):=by kernel_rfl
abbrev qlP:List Ar:=[.d T77]
abbrev qjw:List Ty:=[T77]
def qtw(n:Nat)(x:qdz qlP):Option (qI qjw):=(qdt tab (qkW n) (qn8 n) (qi Tryz.f121) 0 (qhz qlP 4 x)).run (qx0 2 155 qjw)
def qoY(n:Nat):Ct Tryz.prog:=⟨121,qlP,.fb 155 qjw,qtw n,fun _ _ h=>qy0 (B:=tab) (cs:=qkW n) (lo:=qn8 n) (i:=2) (g:=155) (caps:=qjw) Tryz.func121 (by kernel_rfl) qtv (by kernel_rfl) (qfW (qtu n) qdn) h⟩
def qm6(n:Nat):CL Tryz.prog:=⟨[],[],0,nof⟩
def qnW(n:Nat):Cw Tryz.prog:=mkW tab (qm6 n) [] Tryz.func154 [.v (.t 1) T150,.obj (.t 0) true 125 5,.v (.c 0 0) T122,.row (.c 0 2) true T77 77,.row (.c 0 3) true T77 77,.mpi (.c 0 4) true T150 T3] 2 [[.v (.t 0) T3,.obj (.t 1) true 125 5,.v (.c 0 0) T122,.row (.c 0 2) true T77 77,.row (.c 0 3) true T77 77,.mpi (.c 0 4) true T150 T3]] (by kernel_rfl)
def qiM(n:Nat):CL Tryz.prog:=⟨[qoY n],[qnW n],0,nof⟩
def qmz(n:Nat):LK Tryz.prog false:=mkG tab (qiM n) [] Tryz.f120 [true,false,true,false] 0 9 [10] qsm [.obj (.t 0) true 125 5,.v (.c 0 0) T122,.row (.c 0 2) true T77 77,.row (.c 0 3) true T77 77,.mpi (.c 0 4) true T150 T3,.obj (.t 2) false 117 1,.pal (.c 4 0) 0 0,.obj (.t 3) false 77 5,.v (.c 5 0) T77,.obj (.t 4) false 150 2,.v (.c 6 0) T150,.obj (.t 5) false 3 1,.v (.c 7 0) T3] [(.ret,[.obj (.t 0) true 125 5,.v (.c 0 0) T122,.row (.c 0 2) true T77 77,.row (.c 0 3) true T77 77,.mpi (.c 0 4) true T150 T3,.obj (.t 4) false 150 2,.v (.c 4 0) T150,.obj (.t 5) false 3 1,.v (.c 5 0) T3])] (by kernel_rfl)
def qm7(n:Nat):Cw Tryz.prog:=mkW tab (qiM n) [qmz n] Tryz.func120 [.v (.t 1) T77,.obj (.t 0) true 125 5,.v (.c 0 0) T122,.row (.c 0 2) true T77 77,.row (.c 0 3) true T77 77,.mpi (.c 0 4) true T150 T3] 2 [[.v (.t 0) T150,.v (.t 1) T3,.obj (.t 2) true 125 5,.v (.c 0 0) T122,.row (.c 0 2) true T77 77,.row (.c 0 3) true T77 77,.mpi (.c 0 4) true T150 T3]] (by kernel_rfl)
def qhJ(n:Nat):CL Tryz.prog:=⟨[qoY n],[qm7 n],0,nof⟩
def qoh(n:Nat):LK Tryz.prog false:=mkG tab (qhJ n) [] Tryz.f98 [true,true,false,true,false,false,true,true,false,false,true,true,true,true,true,false] 1 60 [61] qsm [.nilf (.t 2),.v (.t 17) T35,.v (.t 18) T3,.v (.t 19) T3,.obj (.t 7) false 117 1,.obj (.c 0 0) false 125 5,.v (.c 1 0) T122,.row (.c 1 2) false T77 77,.row (.c 1 3) false T77 77,.mpi (.c 1 4) false T150 T3,.obj (.t 9) false 77 5,.v (.c 5 0) T77] [] (by kernel_rfl)
def qoi(n:Nat):LK Tryz.prog false:=mkL tab (qhJ n) [qoh n] Tryz.f98 [true,true,false,true,false,false] 0 n [.nilf (.t 2),.v (.t 17) T35,.v (.t 18) T3,.v (.t 19) T3,.obj (.t 7) false 117 1,.obj (.c 0 0) false 125 5,.v (.c 1 0) T122,.row (.c 1 2) false T77 77,.row (.c 1 3) false T77 77,.mpi (.c 1 4) false T150 T3] [(.exit 0,[.obj (.t 7) false 117 1,.obj (.c 0 0) false 125 5,.v (.c 1 0) T122,.row (.c 1 2) false T77 77,.row (.c 1 3) false T77 77,.mpi (.c 1 4) false T150 T3])] (by kernel_rfl)
def qoZ(n:Nat):Cw Tryz.prog:=mkW tab (qhJ n) [qoi n] Tryz.func98 [.v (.t 0) T122,.v (.t 1) T35,.nilf (.t 2)] 3 [[.obj (.t 0) false 125 5,.v (.c 0 0) T122,.row (.c 0 2) false T77 77,.row (.c 0 3) false T77 77,.mpi (.c 0 4) false T150 T3]] (by kernel_rfl)
def qsx(n:Nat):CL Tryz.prog:=⟨[],[qlN n,qgv n,qkV n,qdB n,qdC n],1,nof⟩
def qtx(n:Nat):Ct Tryz.prog:=mkC tab (qsx n) [] Tryz.func99 [.d T35] [T35] (by kernel_rfl)
def qre(n:Nat):CL Tryz.prog:=⟨[qlL n,qkD n],[],0,nof⟩
def qm8(n:Nat):Cw Tryz.prog:=mkW tab (qre n) [] Tryz.func95 [.v (.t 0) T150,.obj (.t 1) true 122 2,.v (.c 0 0) T122] 2 [[.v (.t 0) T4,.obj (.t 1) true 122 2,.v (.c 0 0) T122]] (by kernel_rfl)
def qdI(n:Nat):CL Tryz.prog:=⟨[],[qm8 n],0,nof⟩
def qg5(n:Nat):LK Tryz.prog false:=mkL tab (qdI n) [] Tryz.f118 [true,false,true,false,false] 0 n [.v (.t 0) T147,.v (.t 7) T3,.v (.t 8) T3,.fnc (.t 1) 95 [.box true 122 2],.v (.c 0 0) T122] [(.exit 0,[.fnc (.t 1) 95 [.box true 122 2],.v (.c 0 0) T122]),(.ret,[.v (.t 4) T3,.fnc (.t 1) 95 [.box true 122 2],.v (.c 0 0) T122])] (by kernel_rfl)
def qho(n:Nat):Cw Tryz.prog:=mkW tab (qdI n) [qg5 n] Tryz.func118 [.v (.t 0) T147,.fnc (.t 1) 95 [.box true 122 2],.v (.c 0 0) T122] 2 [[.v (.t 0) T3,.obj (.t 1) true 122 2,.v (.c 0 0) T122]] (by kernel_rfl)
def qgw(n:Nat):CL Tryz.prog:=⟨[],[qm8 n,qho n],0,nof⟩
def qgH(n:Nat):Cw Tryz.prog:=mkW tab (qgw n) [] Tryz.func94 [.v (.t 0) T147,.fnc (.t 1) 95 [.box true 122 2],.v (.c 0 0) T122] 2 [[.v (.t 0) T4,.obj (.t 1) true 122 2,.v (.c 0 0) T122]] (by kernel_rfl)
def qsy(n:Nat):CL Tryz.prog:=⟨[qlO n,qtx n],[qgH n,qoZ n],4,nof⟩
def qty(n:Nat):Cw Tryz.prog:=mkW tab (qsy n) [] Tryz.func64 [.v (.t 0) T34,.v (.t 1) T35,.v (.t 2) T147] 3 [[.v (.t 1) T24,.obj (.t 0) false 125 5,.v (.c 0 0) T122,.row (.c 0 2) false T77 77,.row (.c 0 3) false T77 77,.mpi (.c 0 4) false T150 T3],[.nilp (.t 0),.v (.t 1) T24]] (by kernel_rfl)
def qqn(n:Nat):CL Tryz.prog:=⟨[],[qty n,qt0 n,qoX n],4,nof⟩
def qmm(n:Nat):Ct Tryz.prog:=mkC tab (qqn n) [] Tryz.func40 [.d T34,.d T35] [T22,T24] (by kernel_rfl)
end
section
end
end
end Go.Proofs.YtcjcacbhkoainaaGreatDoor
