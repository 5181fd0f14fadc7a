/- Texts DnG, DnH, DnM in one. -/
import Derived.Test.YtbdockhccdkdiaaGreatNg
/- Printed: what functions of the program compute. -/
set_option linter.constructorNameAsVariable false
set_option linter.unusedSimpArgs false
set_option linter.unusedVariables false
set_option linter.unusedSectionVars false
namespace Go.Proofs.YtbdockhccdkdiaaGreat
open Go Go.Proofs Go.RowKit
set_option maxRecDepth 20000
noncomputable section
section
def qeP(n:Nat):CL Tryz.prog:=⟨[],[],0,fun _=>false⟩
def qg7(n:Nat):Nat→St→PT (DEx×St):=fun _ _=>.fail
theorem qkM(n:Nat):qT (qeP n).c (qq Tryz.f51) 0=[]:=by kernel_rfl
theorem qkN:Tryz.f51.body=some (qq Tryz.f51):=by kernel_rfl
abbrev qeQ:List It:=[.raw (.t 0)]
abbrev qeD:List (List It):=[[.row (.t 0) false T3 3]]
def qdQ(n:Nat)(x:qf qeQ):Option (qbY qeD):=runW tab (qeP n) (qg7 n) (qq Tryz.f51) qeQ 1 8 [.tmp 2] qeD x
def qkO(n:Nat):Cw Tryz.prog:=⟨51,1,qeQ,1,qeD,qdQ n,fun _ _ h=>qpq (B:=tab) (cs:=qeP n) (lo:=qg7 n) (rs:=[.tmp 2]) Tryz.func51 (by kernel_rfl) qkN (by kernel_rfl) (by decide) (qj4 (qkM n) qgD) h⟩
def qgo(n:Nat):CL Tryz.prog:=⟨[],[],0,fun _=>false⟩
def qiy(n:Nat):Nat→St→PT (DEx×St):=fun _ _=>.fail
theorem qmO(n:Nat):qT (qgo n).c (qq Tryz.f51) 0=[]:=by kernel_rfl
theorem qmP:Tryz.f51.body=some (qq Tryz.f51):=by kernel_rfl
abbrev qgp:List It:=[.v (.t 0) T23]
abbrev qel:List (List It):=[[.row (.t 0) false T3 3]]
def qeY(n:Nat)(x:qf qgp):Option (qbY qel):=runW tab (qgo n) (qiy n) (qq Tryz.f51) qgp 1 8 [.tmp 2] qel x
def qmQ(n:Nat):Cw Tryz.prog:=⟨51,1,qgp,1,qel,qeY n,fun _ _ h=>qpq (B:=tab) (cs:=qgo n) (lo:=qiy n) (rs:=[.tmp 2]) Tryz.func51 (by kernel_rfl) qmP (by kernel_rfl) (by decide) (qj4 (qmO n) qgD) h⟩
end
theorem qmR(n:Nat)(c:Nat):qdQ n (.slice none 0 c,())=some ([],()):=by kernel_rfl
theorem qmS(n:Nat)(a:Addr)(c:Nat):qdQ n (.slice (some a) 0 c,())=some ([],()):=by kernel_rfl
def qiQ(n:Nat):Cw Tryz.prog:=qwU 51 T3 qel (qdQ n) (qeY n) ([],()) (fun v y m0 h=>(qkO n).okk (x:=(v,())) (y:=y) h m0 (qrT m0)) (fun l y m0 h=>(qmQ n).okk (x:=(l,())) (y:=y) h m0 (qrT m0)) (fun A c=>by cases A with | none=>exact qmR n c | some a=>exact qmS n a c)
def qmT(n:Nat):=(qiQ n).M
section
def qny(n:Nat):CL Tryz.prog:=⟨[],[],0,nof⟩
def qjQ(n:Nat):Ct Tryz.prog:=mkC tab (qny n) [] Tryz.func100 [.d T136] [T3] (by kernel_rfl)
def qoQ(n:Nat):CL Tryz.prog:=⟨[qjQ n],[],0,nof⟩
def qla(n:Nat):Ct Tryz.prog:=mkC tab (qoQ n) [] Tryz.func73 [.d T44] [T3] (by kernel_rfl)
def qcw(n:Nat):CL Tryz.prog:=⟨[qi5 n],[],0,nof⟩
def qem(n:Nat):LK Tryz.prog false:=mkL tab (qcw n) [] Tryz.f90 [true,false,false,true,false,false,true,false,false] 1 n [.v (.t 1) T3,.v (.t 2) T3,.v (.t 6) T3,.v (.t 7) T3,.row (.t 0) true T3 3] [(.exit 2,[.v (.t 1) T3,.v (.t 2) T3,.v (.t 6) T3,.row (.t 0) true T3 3])] (by kernel_rfl)
def qen(n:Nat):LK Tryz.prog false:=mkL tab (qcw n) [qem n] Tryz.f90 [true,false,false] 0 n [.v (.t 1) T3,.v (.t 2) T3,.v (.t 6) T3,.row (.t 0) true T3 3] [(.exit 0,[.row (.t 0) true T3 3])] (by kernel_rfl)
def qex(n:Nat):Cw Tryz.prog:=mkW tab (qcw n) [qen n] Tryz.func90 [.v (.t 1) T3,.v (.t 2) T3,.row (.t 0) true T3 3] 3 [[.row (.t 0) true T3 3]] (by kernel_rfl)
abbrev qE:List It:=[.v (.t 1) T3,.v (.t 2) T3,.v (.t 3) T3,.row (.t 0) true T3 3]
abbrev qD:List (List It):=[[.row (.t 0) true T3 3]]
abbrev qk:Type:={g:qf qE→Option (qbY qD) // qwp Tryz.prog 72 4 qE 0 qD g}
def qbi(n:Nat)(g:qk):CL Tryz.prog:=⟨[qi5 n],[qex n,⟨72,4,qE,0,qD,g.1,g.2⟩],0,fun _=>false⟩
def qfi(n:Nat)(g:qk):Nat→St→PT (DEx×St):=fun _ _=>.fail
abbrev qbP:List It:=[.v (.t 1) T3,.v (.t 2) T3,.v (.t 3) T3,.v (.t 8) T4,.v (.t 9) T4,.row (.t 0) true T3 3]
abbrev qcr:List (DEx×List It):=[(.ret,[.row (.t 0) true T3 3])]
def qfy(n:Nat)(g:qk)(rec:qf qbP→Option (qJ qcr))(s:qf qbP):Option (qJ qcr):=(qcG tab (qbi n g) (qfi n g) (subC [true,true,false,false] (qq Tryz.f72)) 1 (mkS qbP 134 s)).run (Lp.leaf 134 qbP qcr rec)
def qdL(n:Nat)(g:qk):Lp:=⟨134,qbP,qcr,qn n (qfy n g)⟩
theorem qiG(n:Nat)(g:qk):qT (qbi n g).c (subC [true,true,false,false] (qq Tryz.f72)) 1=[]:=by kernel_rfl
theorem qhP(n:Nat)(g:qk)(st:St)(r:DEx×St)(h:((qdL n g).go st).Is r):DA Tryz.prog false (.loop (subC [true,true,false,false] (qq Tryz.f72))) st r:=Lp.ok (L:=qdL n g) (B:=tab) (cs:=qbi n g) (lo:=qfi n g) (id:=0) rfl (qj4 (qiG n g) qgD) (fun _ _=>rfl) h
def qfz(n:Nat)(g:qk):Nat→St→PT (DEx×St):=fun k st=>match k with
 | 0=>(qdL n g).go st
 | _=>.fail
theorem qjb(n:Nat)(g:qk):qT (qbi n g).c (qq Tryz.f72) 0=[(0,.loop (subC [true,true,false,false] (qq Tryz.f72)))]:=by kernel_rfl
theorem qjc:Tryz.f72.body=some (qq Tryz.f72):=by kernel_rfl
def qdM(n:Nat)(g:qk)(x:qf qE):Option (qbY qD):=runW tab (qbi n g) (qfz n g) (qq Tryz.f72) qE 4 134 [] qD x
theorem qiH(n:Nat)(g:qk):qwp Tryz.prog 72 4 qE 0 qD (qdM n g):=fun _ _ h=>qpq (B:=tab) (cs:=qbi n g) (lo:=qfz n g) (rs:=[]) Tryz.func72 (by kernel_rfl) qjc (by kernel_rfl) (by decide) (qj4 (qjb n g) (all_cons (fun st r h=>qhP n g st r h) qgD)) h
def qV(n:Nat):Nat→qk
 | 0=>⟨fun _=>none,fun _ _ h=>by cases h⟩
 | k+1=>⟨qdM n (qV n k),qiH n (qV n k)⟩
def qf1(n:Nat)(x:qf qE):Option (qbY qD):=(qV n n).1 x
def qjd(n:Nat):Cw Tryz.prog:=⟨72,4,qE,0,qD,qf1 n,(qV n n).2⟩
def qmU(n:Nat):CL Tryz.prog:=⟨[qla n],[qjd n],0,nof⟩
def qjz(n:Nat):Cw Tryz.prog:=mkW tab (qmU n) [] Tryz.func52 [.row (.t 0) true T3 3] 1 [[.row (.t 0) true T3 3]] (by kernel_rfl)
def qhC(n:Nat):CL Tryz.prog:=⟨[],[],0,nof⟩
def qlm(n:Nat):LK Tryz.prog false:=mkL tab (qhC n) [] Tryz.f53 [true,false,false] 0 n [.v (.t 2) T3,.v (.t 3) T3,.row (.t 0) true T3 3] [(.exit 0,[.row (.t 0) true T3 3])] (by kernel_rfl)
def qh9(n:Nat):Cw Tryz.prog:=mkW tab (qhC n) [qlm n] Tryz.func53 [.row (.t 0) true T3 3] 1 [[.row (.t 0) true T3 3]] (by kernel_rfl)
def qlQ(n:Nat):CL Tryz.prog:=⟨[],[qiQ n,qjz n,qh9 n],1,nof⟩
def qlR(n:Nat):LK Tryz.prog false:=mkL tab (qlQ n) [] Tryz.f27 [true,true,true,true,false,true,false,false] 0 n [.v (.t 1) T3,.v (.t 14) T23,.v (.t 15) T3,.v (.t 16) T3] [(.exit 0,[]),(.ret,[.v (.t 4) T4])] (by kernel_rfl)
def qjJ(n:Nat):Ct Tryz.prog:=mkC tab (qlQ n) [qlR n] Tryz.func27 [.d T23,.d T3] [T4] (by kernel_rfl)
def qrZ(n:Nat):CL Tryz.prog:=⟨[],[],0,nof⟩
def qon(n:Nat):Ct Tryz.prog:=mkC tab (qrZ n) [] Tryz.func29 [.d T25] [T3] (by kernel_rfl)
def qqV(n:Nat):CL Tryz.prog:=⟨[],[],0,nof⟩
def qnz(n:Nat):Ct Tryz.prog:=mkC tab (qqV n) [] Tryz.func30 [.d T25] [T3] (by kernel_rfl)
def qf2(n:Nat):CL Tryz.prog:=⟨[qon n],[],0,nof⟩
def qf3(n:Nat):LK Tryz.prog false:=mkL tab (qf2 n) [] Tryz.f28 [true,true,false,true,false,false] 0 n [.fn (.t 1) 29 [] [],.v (.t 8) T22,.v (.t 9) T3,.v (.t 10) T3,.row (.t 5) false T3 3] [(.exit 0,[.row (.t 5) false T3 3])] (by kernel_rfl)
def qcH(n:Nat):Ct Tryz.prog:=mkC tab (qf2 n) [qf3 n] Tryz.func28 [.d T22,.fn 29 [] []] [T23] (by kernel_rfl)
def qfA(n:Nat):CL Tryz.prog:=⟨[qnz n],[],0,nof⟩
def qfB(n:Nat):LK Tryz.prog false:=mkL tab (qfA n) [] Tryz.f28 [true,true,false,true,false,false] 0 n [.fn (.t 1) 30 [] [],.v (.t 8) T22,.v (.t 9) T3,.v (.t 10) T3,.row (.t 5) false T3 3] [(.exit 0,[.row (.t 5) false T3 3])] (by kernel_rfl)
def qcx(n:Nat):Ct Tryz.prog:=mkC tab (qfA n) [qfB n] Tryz.func28 [.d T22,.fn 30 [] []] [T23] (by kernel_rfl)
def qln(n:Nat):CL Tryz.prog:=⟨[qgK n],[],0,nof⟩
def qdd(n:Nat):Ct Tryz.prog:=mkC tab (qln n) [] Tryz.func49 [.d T25] [T4] (by kernel_rfl)
def qfG(n:Nat):CL Tryz.prog:=⟨[qdd n],[],0,nof⟩
def qbW(n:Nat):Cw Tryz.prog:=mkW tab (qfG n) [] Tryz.func71 [.v (.t 0) T25,.obj (.t 1) true 98 1,.fnc (.c 0 0) 49 []] 2 [[.v (.t 0) T4,.obj (.t 1) true 98 1,.fnc (.c 0 0) 49 []]] (by kernel_rfl)
def qbe(n:Nat):CL Tryz.prog:=⟨[qdd n],[qbW n],0,nof⟩
def qbf(n:Nat):LK Tryz.prog false:=mkL tab (qbe n) [] Tryz.f89 [true,false,true,false,false] 0 n [.v (.t 0) T22,.v (.t 7) T3,.v (.t 8) T3,.fnc (.t 1) 71 [.box true 98 1],.fnc (.c 0 0) 49 []] [(.exit 0,[.fnc (.t 1) 71 [.box true 98 1],.fnc (.c 0 0) 49 []]),(.ret,[.v (.t 4) T3,.fnc (.t 1) 71 [.box true 98 1],.fnc (.c 0 0) 49 []])] (by kernel_rfl)
def qbk(n:Nat):Cw Tryz.prog:=mkW tab (qbe n) [qbf n] Tryz.func89 [.v (.t 0) T22,.fnc (.t 1) 71 [.box true 98 1],.fnc (.c 0 0) 49 []] 2 [[.v (.t 0) T3,.obj (.t 1) true 98 1,.fnc (.c 0 0) 49 []]] (by kernel_rfl)
def qct(n:Nat):CL Tryz.prog:=⟨[qdd n],[qbW n,qbk n],0,nof⟩
def q9(n:Nat):Cw Tryz.prog:=mkW tab (qct n) [] Tryz.func70 [.v (.t 0) T22,.fnc (.t 1) 71 [.box true 98 1],.fnc (.c 0 0) 49 []] 2 [[.v (.t 0) T4,.obj (.t 1) true 98 1,.fnc (.c 0 0) 49 []]] (by kernel_rfl)
def qf6(n:Nat):CL Tryz.prog:=⟨[qdd n],[q9 n],0,nof⟩
def qdA(n:Nat):Cw Tryz.prog:=mkW tab (qf6 n) [] Tryz.func48 [.v (.t 0) T22,.fn (.t 1) 49 [] []] 2 [[.v (.t 0) T4]] (by kernel_rfl)
def qmx(n:Nat):CL Tryz.prog:=⟨[],[qdA n],0,nof⟩
def qeZ(n:Nat):Ct Tryz.prog:=mkC tab (qmx n) [] Tryz.func25 [.d T22,.d T4] [T28] (by kernel_rfl)
def qp4(n:Nat):CL Tryz.prog:=⟨[qeZ n,qbo n,qjJ n,qcH n,qcx n],[],0,nof⟩
def qjK(n:Nat):Ct Tryz.prog:=mkC tab (qp4 n) [] Tryz.func8 [.d T22,.d T3] [T4,T4,T28] (by kernel_rfl)
def qlS(n:Nat):CL Tryz.prog:=⟨[qjJ n,qff n],[],0,nof⟩
def qlT(n:Nat):LK Tryz.prog false:=mkL tab (qlS n) [] Tryz.f33 [true,true,false,true,false,false] 0 n [.v (.t 0) T23,.v (.t 1) T3,.v (.t 5) T3,.v (.t 12) T3,.v (.t 13) T3] [(.exit 0,[.v (.t 5) T3])] (by kernel_rfl)
def qjL(n:Nat):Ct Tryz.prog:=mkC tab (qlS n) [qlT n] Tryz.func33 [.d T23,.d T3] [T3] (by kernel_rfl)
def qp5(n:Nat):CL Tryz.prog:=⟨[qeZ n,qbo n,qcH n,qcx n,qjL n],[],0,nof⟩
def qmI(n:Nat):Ct Tryz.prog:=mkC tab (qp5 n) [] Tryz.func12 [.d T22,.d T3] [T3,T28] (by kernel_rfl)
def qhq(n:Nat):CL Tryz.prog:=⟨[],[],0,nof⟩
def qhr(n:Nat):LK Tryz.prog false:=mkL tab (qhq n) [] Tryz.f37 [true,false,true,false,false] 0 n [.v (.t 1) T3,.v (.t 7) T22,.v (.t 8) T3,.v (.t 9) T3,.row (.t 4) false T25 25] [(.exit 0,[.row (.t 4) false T25 25])] (by kernel_rfl)
def qhD(n:Nat):Ct Tryz.prog:=mkC tab (qhq n) [qhr n] Tryz.func37 [.d T22,.d T3] [T22] (by kernel_rfl)
def qnA(n:Nat):CL Tryz.prog:=⟨[qcH n,qcx n,qjL n,qhD n],[],0,nof⟩
def qjR(n:Nat):Cw Tryz.prog:=mkW tab (qnA n) [] Tryz.func36 [.v (.t 0) T3,.obj (.t 1) true 22 1,.v (.c 0 0) T22,.obj (.t 2) true 3 1,.v (.c 1 0) T3,.obj (.t 3) true 3 1,.v (.c 2 0) T3] 4 [[.v (.t 0) T4,.obj (.t 1) true 22 1,.v (.c 0 0) T22,.obj (.t 2) true 3 1,.v (.c 1 0) T3,.obj (.t 3) true 3 1,.v (.c 2 0) T3]] (by kernel_rfl)
def qdl(n:Nat):CL Tryz.prog:=⟨[qff n,qgh n],[qjR n],0,nof⟩
def qe3(n:Nat):LK Tryz.prog false:=mkL tab (qdl n) [] Tryz.f35 [true,true,false,true,false,false] 0 n [.v (.t 0) T3,.v (.t 15) T3,.v (.t 16) T3,.fnc (.t 1) 36 [.box true 22 1,.box true 3 1,.box true 3 1],.v (.c 0 0) T22,.v (.c 1 0) T3,.v (.c 2 0) T3,.row (.t 6) false T3 3] [(.exit 0,[.v (.t 0) T3,.fnc (.t 1) 36 [.box true 22 1,.box true 3 1,.box true 3 1],.v (.c 0 0) T22,.v (.c 1 0) T3,.v (.c 2 0) T3,.row (.t 6) false T3 3])] (by kernel_rfl)
def qe4(n:Nat):LK Tryz.prog false:=mkL tab (qdl n) [] Tryz.f35 [true,true,true,true,true,false,true,false,false] 1 n [.v (.t 6) T23,.v (.t 8) T23,.v (.t 9) T4,.v (.t 25) T3,.v (.t 26) T3,.fnc (.t 1) 36 [.box true 22 1,.box true 3 1,.box true 3 1],.v (.c 0 0) T22,.v (.c 1 0) T3,.v (.c 2 0) T3] [(.exit 2,[.v (.t 8) T23,.v (.t 9) T4,.fnc (.t 1) 36 [.box true 22 1,.box true 3 1,.box true 3 1],.v (.c 0 0) T22,.v (.c 1 0) T3,.v (.c 2 0) T3])] (by kernel_rfl)
def qfj(n:Nat):Cw Tryz.prog:=mkW tab (qdl n) [qe3 n,qe4 n] Tryz.func35 [.v (.t 0) T3,.fnc (.t 1) 36 [.box true 22 1,.box true 3 1,.box true 3 1],.v (.c 0 0) T22,.v (.c 1 0) T3,.v (.c 2 0) T3] 2 [[.v (.t 0) T23,.v (.t 1) T4,.obj (.t 2) true 22 1,.obj (.t 3) true 3 1,.obj (.t 4) true 3 1,.v (.c 0 0) T22,.v (.c 1 0) T3,.v (.c 2 0) T3]] (by kernel_rfl)
def qpC(n:Nat):CL Tryz.prog:=⟨[qeZ n,qbo n],[qfS n,qfj n],0,nof⟩
def qlU(n:Nat):Ct Tryz.prog:=mkC tab (qpC n) [] Tryz.func14 [.d T22,.d T3,.d T3] [T23,T28] (by kernel_rfl)
end
end
end Go.Proofs.YtbdockhccdkdiaaGreat
