/- Texts DnG, DnH, DnM in one. -/
import Derived.Test.YtbdockhccdkdiaaGreatNg
/- Printed: what functions of the program compute. -/
set_option linter.constructorNameAsVariable false
set_option linter.unusedSimpArgs false
set_option linter.unusedVariables false
set_option linter.unusedSectionVars false
namespace Go.Proofs.YtbdockhccdkdiaaGreat
open Go Go.Proofs Go.RowKit
set_option maxRecDepth 20000
noncomputable section
section
def qek(n:Nat):CL Tryz.prog:=⟨[],[],0,fun _=>false⟩
def qgp(n:Nat):Nat→St→PT (DEx×St):=fun _ _=>.fail
theorem qjp(n:Nat):qW (qek n).c (qp Tryz.f51) 0=[]:=by kernel_rfl
theorem qjq:Tryz.f51.body=some (qp Tryz.f51):=by kernel_rfl
abbrev qel:List It:=[.raw (.t 0)]
abbrev qec:List (List It):=[[.row (.t 0) false T3 3]]
def qdu(n:Nat)(x:qf qel):Option (qbX qec):=runW tab (qek n) (qgp n) (qp Tryz.f51) qel 1 8 [.tmp 2] qec x
def qjr(n:Nat):Cw Tryz.prog:=⟨51,1,qel,1,qec,qdu n,fun _ _ h=>qnP (B:=tab) (cs:=qek n) (lo:=qgp n) (rs:=[.tmp 2]) Tryz.func51 (by kernel_rfl) qjq (by kernel_rfl) (by decide) (qjK (qjp n) qfU) h⟩
def qfI(n:Nat):CL Tryz.prog:=⟨[],[],0,fun _=>false⟩
def qhB(n:Nat):Nat→St→PT (DEx×St):=fun _ _=>.fail
theorem qlm(n:Nat):qW (qfI n).c (qp Tryz.f51) 0=[]:=by kernel_rfl
theorem qln:Tryz.f51.body=some (qp Tryz.f51):=by kernel_rfl
abbrev qfJ:List It:=[.v (.t 0) T23]
abbrev qd0:List (List It):=[[.row (.t 0) false T3 3]]
def qeu(n:Nat)(x:qf qfJ):Option (qbX qd0):=runW tab (qfI n) (qhB n) (qp Tryz.f51) qfJ 1 8 [.tmp 2] qd0 x
def qlo(n:Nat):Cw Tryz.prog:=⟨51,1,qfJ,1,qd0,qeu n,fun _ _ h=>qnP (B:=tab) (cs:=qfI n) (lo:=qhB n) (rs:=[.tmp 2]) Tryz.func51 (by kernel_rfl) qln (by kernel_rfl) (by decide) (qjK (qlm n) qfU) h⟩
end
theorem qlp(n:Nat)(c:Nat):qdu n (.slice none 0 c,())=some ([],()):=by kernel_rfl
theorem qlq(n:Nat)(a:Addr)(c:Nat):qdu n (.slice (some a) 0 c,())=some ([],()):=by kernel_rfl
def qhM(n:Nat):Cw Tryz.prog:=quB 51 T3 qd0 (qdu n) (qeu n) ([],()) (fun v y m0 h=>(qjr n).okk (x:=(v,())) (y:=y) h m0 (qp9 m0)) (fun l y m0 h=>(qlo n).okk (x:=(l,())) (y:=y) h m0 (qp9 m0)) (fun A c=>by cases A with | none=>exact qlp n c | some a=>exact qlq n a c)
def qlr(n:Nat):=(qhM n).M
section
def ql6(n:Nat):CL Tryz.prog:=⟨[],[],0,nof⟩
def qiE(n:Nat):Ct Tryz.prog:=mkC tab (ql6 n) [] Tryz.func100 [.d T136] [T3] (by kernel_rfl)
def qnj(n:Nat):CL Tryz.prog:=⟨[qiE n],[],0,nof⟩
def qjP(n:Nat):Ct Tryz.prog:=mkC tab (qnj n) [] Tryz.func73 [.d T44] [T3] (by kernel_rfl)
def qco(n:Nat):CL Tryz.prog:=⟨[qh2 n],[],0,nof⟩
def qd1(n:Nat):LK Tryz.prog false:=mkL tab (qco n) [] Tryz.f90 [true,false,false,true,false,false,true,false,false] 1 n [.v (.t 1) T3,.v (.t 2) T3,.v (.t 6) T3,.v (.t 7) T3,.row (.t 0) true T3 3] [(.exit 2,[.v (.t 1) T3,.v (.t 2) T3,.v (.t 6) T3,.row (.t 0) true T3 3])] (by kernel_rfl)
def qd2(n:Nat):LK Tryz.prog false:=mkL tab (qco n) [qd1 n] Tryz.f90 [true,false,false] 0 n [.v (.t 1) T3,.v (.t 2) T3,.v (.t 6) T3,.row (.t 0) true T3 3] [(.exit 0,[.row (.t 0) true T3 3])] (by kernel_rfl)
def qd9(n:Nat):Cw Tryz.prog:=mkW tab (qco n) [qd2 n] Tryz.func90 [.v (.t 1) T3,.v (.t 2) T3,.row (.t 0) true T3 3] 3 [[.row (.t 0) true T3 3]] (by kernel_rfl)
abbrev qE:List It:=[.v (.t 1) T3,.v (.t 2) T3,.v (.t 3) T3,.row (.t 0) true T3 3]
abbrev qC:List (List It):=[[.row (.t 0) true T3 3]]
abbrev qk:Type:={g:qf qE→Option (qbX qC) // qt6 Tryz.prog 72 4 qE 0 qC g}
def qbj(n:Nat)(g:qk):CL Tryz.prog:=⟨[qh2 n],[qd9 n,⟨72,4,qE,0,qC,g.1,g.2⟩],0,fun _=>false⟩
def qeJ(n:Nat)(g:qk):Nat→St→PT (DEx×St):=fun _ _=>.fail
abbrev qbN:List It:=[.v (.t 1) T3,.v (.t 2) T3,.v (.t 3) T3,.v (.t 8) T4,.v (.t 9) T4,.row (.t 0) true T3 3]
abbrev qcj:List (DEx×List It):=[(.ret,[.row (.t 0) true T3 3])]
def qeW(n:Nat)(g:qk)(rec:qf qbN→Option (qU qcj))(s:qf qbN):Option (qU qcj):=(qcW tab (qbj n g) (qeJ n g) (subC [true,true,false,false] (qp Tryz.f72)) 1 (mkS qbN 134 s)).run (Lp.leaf 134 qbN qcj rec)
def qdq(n:Nat)(g:qk):Lp:=⟨134,qbN,qcj,qN n (qeW n g)⟩
theorem qhI(n:Nat)(g:qk):qW (qbj n g).c (subC [true,true,false,false] (qp Tryz.f72)) 1=[]:=by kernel_rfl
theorem qgX(n:Nat)(g:qk)(st:St)(r:DEx×St)(h:((qdq n g).go st).Is r):DA Tryz.prog false (.loop (subC [true,true,false,false] (qp Tryz.f72))) st r:=Lp.ok (L:=qdq n g) (B:=tab) (cs:=qbj n g) (lo:=qeJ n g) (id:=0) rfl (qjK (qhI n g) qfU) (fun _ _=>rfl) h
def qeX(n:Nat)(g:qk):Nat→St→PT (DEx×St):=fun k st=>match k with
 | 0=>(qdq n g).go st
 | _=>.fail
theorem qia(n:Nat)(g:qk):qW (qbj n g).c (qp Tryz.f72) 0=[(0,.loop (subC [true,true,false,false] (qp Tryz.f72)))]:=by kernel_rfl
theorem qib:Tryz.f72.body=some (qp Tryz.f72):=by kernel_rfl
def qdr(n:Nat)(g:qk)(x:qf qE):Option (qbX qC):=runW tab (qbj n g) (qeX n g) (qp Tryz.f72) qE 4 134 [] qC x
theorem qhJ(n:Nat)(g:qk):qt6 Tryz.prog 72 4 qE 0 qC (qdr n g):=fun _ _ h=>qnP (B:=tab) (cs:=qbj n g) (lo:=qeX n g) (rs:=[]) Tryz.func72 (by kernel_rfl) qib (by kernel_rfl) (by decide) (qjK (qia n g) (all_cons (fun st r h=>qgX n g st r h) qfU)) h
def qT(n:Nat):Nat→qk
 | 0=>⟨fun _=>none,fun _ _ h=>by cases h⟩
 | k+1=>⟨qdr n (qT n k),qhJ n (qT n k)⟩
def qfp(n:Nat)(x:qf qE):Option (qbX qC):=(qT n n).1 x
def qic(n:Nat):Cw Tryz.prog:=⟨72,4,qE,0,qC,qfp n,(qT n n).2⟩
def qls(n:Nat):CL Tryz.prog:=⟨[qjP n],[qic n],0,nof⟩
def qiw(n:Nat):Cw Tryz.prog:=mkW tab (qls n) [] Tryz.func52 [.row (.t 0) true T3 3] 1 [[.row (.t 0) true T3 3]] (by kernel_rfl)
def qgP(n:Nat):CL Tryz.prog:=⟨[],[],0,nof⟩
def qjZ(n:Nat):LK Tryz.prog false:=mkL tab (qgP n) [] Tryz.f53 [true,false,false] 0 n [.v (.t 2) T3,.v (.t 3) T3,.row (.t 0) true T3 3] [(.exit 0,[.row (.t 0) true T3 3])] (by kernel_rfl)
def qhe(n:Nat):Cw Tryz.prog:=mkW tab (qgP n) [qjZ n] Tryz.func53 [.row (.t 0) true T3 3] 1 [[.row (.t 0) true T3 3]] (by kernel_rfl)
def qku(n:Nat):CL Tryz.prog:=⟨[],[qhM n,qiw n,qhe n],1,nof⟩
def qkv(n:Nat):LK Tryz.prog false:=mkL tab (qku n) [] Tryz.f27 [true,true,true,true,false,true,false,false] 0 n [.v (.t 1) T3,.v (.t 14) T23,.v (.t 15) T3,.v (.t 16) T3] [(.exit 0,[]),(.ret,[.v (.t 4) T4])] (by kernel_rfl)
def qle(n:Nat):Ct Tryz.prog:=mkC tab (qku n) [qkv n] Tryz.func27 [.d T23,.d T3] [T4] (by kernel_rfl)
def qqe(n:Nat):CL Tryz.prog:=⟨[],[],0,nof⟩
def qmR(n:Nat):Ct Tryz.prog:=mkC tab (qqe n) [] Tryz.func29 [.d T25] [T3] (by kernel_rfl)
def qpb(n:Nat):CL Tryz.prog:=⟨[],[],0,nof⟩
def ql7(n:Nat):Ct Tryz.prog:=mkC tab (qpb n) [] Tryz.func30 [.d T25] [T3] (by kernel_rfl)
def qfq(n:Nat):CL Tryz.prog:=⟨[qmR n],[],0,nof⟩
def qfr(n:Nat):LK Tryz.prog false:=mkL tab (qfq n) [] Tryz.f28 [true,true,false,true,false,false] 0 n [.fn (.t 1) 29 [] [],.v (.t 8) T22,.v (.t 9) T3,.v (.t 10) T3,.row (.t 5) false T3 3] [(.exit 0,[.row (.t 5) false T3 3])] (by kernel_rfl)
def qfz(n:Nat):Ct Tryz.prog:=mkC tab (qfq n) [qfr n] Tryz.func28 [.d T22,.fn 29 [] []] [T23] (by kernel_rfl)
def qeY(n:Nat):CL Tryz.prog:=⟨[ql7 n],[],0,nof⟩
def qeZ(n:Nat):LK Tryz.prog false:=mkL tab (qeY n) [] Tryz.f28 [true,true,false,true,false,false] 0 n [.fn (.t 1) 30 [] [],.v (.t 8) T22,.v (.t 9) T3,.v (.t 10) T3,.row (.t 5) false T3 3] [(.exit 0,[.row (.t 5) false T3 3])] (by kernel_rfl)
def qfs(n:Nat):Ct Tryz.prog:=mkC tab (qeY n) [qeZ n] Tryz.func28 [.d T22,.fn 30 [] []] [T23] (by kernel_rfl)
def qj0(n:Nat):CL Tryz.prog:=⟨[qf2 n],[],0,nof⟩
def qcT(n:Nat):Ct Tryz.prog:=mkC tab (qj0 n) [] Tryz.func49 [.d T25] [T4] (by kernel_rfl)
def qe6(n:Nat):CL Tryz.prog:=⟨[qcT n],[],0,nof⟩
def qbV(n:Nat):Cw Tryz.prog:=mkW tab (qe6 n) [] Tryz.func71 [.v (.t 0) T25,.obj (.t 1) true 98 1,.fnc (.c 0 0) 49 []] 2 [[.v (.t 0) T4,.obj (.t 1) true 98 1,.fnc (.c 0 0) 49 []]] (by kernel_rfl)
def qbf(n:Nat):CL Tryz.prog:=⟨[qcT n],[qbV n],0,nof⟩
def qbg(n:Nat):LK Tryz.prog false:=mkL tab (qbf n) [] Tryz.f89 [true,false,true,false,false] 0 n [.v (.t 0) T22,.v (.t 7) T3,.v (.t 8) T3,.fnc (.t 1) 71 [.box true 98 1],.fnc (.c 0 0) 49 []] [(.exit 0,[.fnc (.t 1) 71 [.box true 98 1],.fnc (.c 0 0) 49 []]),(.ret,[.v (.t 4) T3,.fnc (.t 1) 71 [.box true 98 1],.fnc (.c 0 0) 49 []])] (by kernel_rfl)
def qbl(n:Nat):Cw Tryz.prog:=mkW tab (qbf n) [qbg n] Tryz.func89 [.v (.t 0) T22,.fnc (.t 1) 71 [.box true 98 1],.fnc (.c 0 0) 49 []] 2 [[.v (.t 0) T3,.obj (.t 1) true 98 1,.fnc (.c 0 0) 49 []]] (by kernel_rfl)
def qcl(n:Nat):CL Tryz.prog:=⟨[qcT n],[qbV n,qbl n],0,nof⟩
def q9(n:Nat):Cw Tryz.prog:=mkW tab (qcl n) [] Tryz.func70 [.v (.t 0) T22,.fnc (.t 1) 71 [.box true 98 1],.fnc (.c 0 0) 49 []] 2 [[.v (.t 0) T4,.obj (.t 1) true 98 1,.fnc (.c 0 0) 49 []]] (by kernel_rfl)
def qfv(n:Nat):CL Tryz.prog:=⟨[qcT n],[q9 n],0,nof⟩
def qdg(n:Nat):Cw Tryz.prog:=mkW tab (qfv n) [] Tryz.func48 [.v (.t 0) T22,.fn (.t 1) 49 [] []] 2 [[.v (.t 0) T4]] (by kernel_rfl)
def qk7(n:Nat):CL Tryz.prog:=⟨[],[qdg n],0,nof⟩
def qhN(n:Nat):Ct Tryz.prog:=mkC tab (qk7 n) [] Tryz.func25 [.d T22,.d T4] [T28] (by kernel_rfl)
def qoq(n:Nat):CL Tryz.prog:=⟨[qhN n,qbS n,qle n,qfz n,qfs n],[],0,nof⟩
def qlf(n:Nat):Ct Tryz.prog:=mkC tab (qoq n) [] Tryz.func8 [.d T22,.d T3] [T4,T4,T28] (by kernel_rfl)
end
end
end Go.Proofs.YtbdockhccdkdiaaGreat
