/- Texts DnA, DnB, DnC, DnD, DnF, DnG, DnH, DnI, DnE, DnJ in one. -/
import Derived.Test.YtlmicgmhallkkaaGreatDoorDnT
import Derived.Test.YtlmicgmhallkkaaGreatDoorNd
import Derived.Test.YtlmicgmhallkkaaGreatDoorKc
/- Printed: what functions of the program compute. -/
set_option linter.constructorNameAsVariable false
set_option linter.unusedSimpArgs false
set_option linter.unusedVariables false
set_option linter.unusedSectionVars false
namespace Go.Proofs.YtlmicgmhallkkaaGreatDoor
open Go Go.Proofs Go.RowKit
set_option maxRecDepth 20000
noncomputable section
section
end
section
def qop(n:Nat):CL Tryz.prog:=⟨[],[],0,nof⟩
def qhW(n:Nat):Ct Tryz.prog:=mkC tab (qop n) [] Tryz.func133 [.d T3] [T4] (by kernel_rfl)
def qpa(n:Nat):CL Tryz.prog:=⟨[qhW n],[],0,nof⟩
def qla(n:Nat):Ct Tryz.prog:=mkC tab (qpa n) [] Tryz.func166 [.d T3,.d T3] [T4] (by kernel_rfl)
def qm5(n:Nat):CL Tryz.prog:=⟨[qhW n],[],0,nof⟩
def qdm(n:Nat):Ct Tryz.prog:=mkC tab (qm5 n) [] Tryz.func100 [.d T3,.d T3] [T3] (by kernel_rfl)
def qm6(n:Nat):CL Tryz.prog:=⟨[],[],0,nof⟩
def qrt(n:Nat):LK Tryz.prog false:=mkL tab (qm6 n) [] Tryz.f78 [true,true,false,true,false,false] 0 n [.v (.t 6) T35,.v (.t 7) T3,.v (.t 8) T3,.row (.t 3) false T3 3] [(.exit 0,[.row (.t 3) false T3 3])] (by kernel_rfl)
def qrX(n:Nat):Cw Tryz.prog:=mkW tab (qm6 n) [qrt n] Tryz.func78 [.v (.t 0) T35] 1 [[.row (.t 0) false T3 3]] (by kernel_rfl)
def qcC(n:Nat):CL Tryz.prog:=⟨[qla n],[],0,nof⟩
def qhe(n:Nat):LK Tryz.prog false:=mkL tab (qcC n) [] Tryz.f160 [true,false,false,true,false,false,true,false,false] 1 n [.v (.t 1) T3,.v (.t 2) T3,.v (.t 6) T3,.v (.t 7) T3,.row (.t 0) true T3 3] [(.exit 2,[.v (.t 1) T3,.v (.t 2) T3,.v (.t 6) T3,.row (.t 0) true T3 3])] (by kernel_rfl)
def qhf(n:Nat):LK Tryz.prog false:=mkL tab (qcC n) [qhe n] Tryz.f160 [true,false,false] 0 n [.v (.t 1) T3,.v (.t 2) T3,.v (.t 6) T3,.row (.t 0) true T3 3] [(.exit 0,[.row (.t 0) true T3 3])] (by kernel_rfl)
def qhm(n:Nat):Cw Tryz.prog:=mkW tab (qcC n) [qhf n] Tryz.func160 [.v (.t 1) T3,.v (.t 2) T3,.row (.t 0) true T3 3] 3 [[.row (.t 0) true T3 3]] (by kernel_rfl)
def qm7(n:Nat):CL Tryz.prog:=⟨[],[],0,nof⟩
def qnH(n:Nat):Ct Tryz.prog:=mkC tab (qm7 n) [] Tryz.func170 [.d T167] [T3] (by kernel_rfl)
def qoq(n:Nat):CL Tryz.prog:=⟨[qnH n],[],0,nof⟩
def qhX(n:Nat):Ct Tryz.prog:=mkC tab (qoq n) [] Tryz.func123 [.d T70] [T3] (by kernel_rfl)
def qpb(n:Nat):CL Tryz.prog:=⟨[],[],0,nof⟩
def qeE(n:Nat):Ct Tryz.prog:=mkC tab (qpb n) [] Tryz.func134 [.d T3,.d T3,.d T3] [T4] (by kernel_rfl)
def qnI(n:Nat):CL Tryz.prog:=⟨[qeE n],[],0,nof⟩
def qj3(n:Nat):Ct Tryz.prog:=mkC tab (qnI n) [] Tryz.func118 [.d T126,.d T3] [T4] (by kernel_rfl)
def qmq(n:Nat):CL Tryz.prog:=⟨[qeE n],[],0,nof⟩
def qi3(n:Nat):Ct Tryz.prog:=mkC tab (qmq n) [] Tryz.func119 [.d T126,.d T3] [T4] (by kernel_rfl)
def qig(n:Nat):CL Tryz.prog:=⟨[qj3 n,qi3 n,qeE n],[],0,nof⟩
def qmr(n:Nat):LK Tryz.prog false:=mkL tab (qig n) [] Tryz.f177 [true,true,false,true,false,false] 0 n [.v (.t 5) T3,.v (.t 8) T89,.v (.t 9) T3,.v (.t 10) T3,.obj (.t 2) false 126 2,.v (.c 0 0) T126] [(.exit 0,[]),(.ret,[.v (.t 4) T4])] (by kernel_rfl)
def qm8(n:Nat):Ct Tryz.prog:=mkC tab (qig n) [qmr n] Tryz.func177 [.d T126,.d T89] [T4] (by kernel_rfl)
def qlb(n:Nat):CL Tryz.prog:=⟨[qeE n,qm8 n],[],0,nof⟩
def ql7(n:Nat):Ct Tryz.prog:=mkC tab (qlb n) [] Tryz.func139 [.d T126,.d T91] [T4] (by kernel_rfl)
def qmk(n:Nat):CL Tryz.prog:=⟨[],[],0,nof⟩
def qqw(n:Nat):LK Tryz.prog false:=mkL tab (qmk n) [] Tryz.f159 [true,true,false,true,false,false] 0 n [.v (.t 3) T3,.v (.t 6) T22,.v (.t 7) T3,.v (.t 8) T3] [(.exit 0,[.v (.t 3) T3]),(.ret,[.v (.t 2) T3])] (by kernel_rfl)
def qj4(n:Nat):Ct Tryz.prog:=mkC tab (qmk n) [qqw n] Tryz.func159 [.d T22] [T3] (by kernel_rfl)
def qml(n:Nat):CL Tryz.prog:=⟨[],[],0,nof⟩
def qqx(n:Nat):LK Tryz.prog false:=mkL tab (qml n) [] Tryz.f140 [true,false,true,false,false] 0 n [.v (.t 0) T35,.v (.t 5) T35,.v (.t 6) T3,.v (.t 7) T3] [(.exit 0,[]),(.ret,[.v (.t 2) T4])] (by kernel_rfl)
def qru(n:Nat):Ct Tryz.prog:=mkC tab (qml n) [qqx n] Tryz.func140 [.d T35] [T4] (by kernel_rfl)
def qkd(n:Nat):CL Tryz.prog:=⟨[],[],0,nof⟩
def qkJ(n:Nat):Ct Tryz.prog:=mkC tab (qkd n) [] Tryz.func80 [] [T34,T35] (by kernel_rfl)
end
section
def qpc(n:Nat):CL Tryz.prog:=⟨[qdm n,qj4 n],[],0,nof⟩
def qiy(n:Nat):Ct Tryz.prog:=mkC tab (qpc n) [] Tryz.func158 [.d T91,.d T91] [T3] (by kernel_rfl)
def qm9(n:Nat):CL Tryz.prog:=⟨[],[],0,nof⟩
def qjr(n:Nat):Cw Tryz.prog:=mkW tab (qm9 n) [] Tryz.func156 [.v (.t 0) T91,.obj (.t 1) true 91 5,.v (.c 0 0) T91] 2 [[.v (.t 0) T4,.obj (.t 1) true 91 5,.v (.c 0 0) T91]] (by kernel_rfl)
def qcF(n:Nat):CL Tryz.prog:=⟨[],[qjr n],0,nof⟩
def qfb(n:Nat):LK Tryz.prog false:=mkL tab (qcF n) [] Tryz.f58 [true,false,true,false,false] 0 n [.v (.t 0) T35,.v (.t 7) T3,.v (.t 8) T3,.fnc (.t 1) 156 [.box true 91 5],.v (.c 0 0) T91] [(.exit 0,[.fnc (.t 1) 156 [.box true 91 5],.v (.c 0 0) T91]),(.ret,[.v (.t 4) T3,.fnc (.t 1) 156 [.box true 91 5],.v (.c 0 0) T91])] (by kernel_rfl)
def q8(n:Nat):Cw Tryz.prog:=mkW tab (qcF n) [qfb n] Tryz.func58 [.v (.t 0) T35,.fnc (.t 1) 156 [.box true 91 5],.v (.c 0 0) T91] 2 [[.v (.t 0) T3,.obj (.t 1) true 91 5,.v (.c 0 0) T91]] (by kernel_rfl)
def qeF(n:Nat):CL Tryz.prog:=⟨[],[q8 n,qjr n],0,nof⟩
def qcu(n:Nat):Cw Tryz.prog:=mkW tab (qeF n) [] Tryz.func137 [.v (.t 0) T35,.fnc (.t 1) 156 [.box true 91 5],.v (.c 0 0) T91] 2 [[.v (.t 0) T4,.obj (.t 1) true 91 5,.v (.c 0 0) T91]] (by kernel_rfl)
def qor(n:Nat):CL Tryz.prog:=⟨[],[qcu n],0,nof⟩
def qkA(n:Nat):Cw Tryz.prog:=mkW tab (qor n) [] Tryz.func155 [.v (.t 0) T91,.obj (.t 1) true 35 1,.v (.c 0 0) T35] 2 [[.v (.t 0) T4,.obj (.t 1) true 35 1,.v (.c 0 0) T35]] (by kernel_rfl)
def q9(n:Nat):CL Tryz.prog:=⟨[qiy n],[],0,nof⟩
def qdO(n:Nat):LK Tryz.prog false:=mkL tab (q9 n) [] Tryz.f195 [true,false,false,true,false,false,true,false,false] 1 n [.v (.t 1) T3,.v (.t 2) T3,.fn (.t 3) 158 [] [],.v (.t 8) T3,.v (.t 9) T3,.row (.t 0) true T91 91] [(.exit 2,[.v (.t 1) T3,.v (.t 2) T3,.fn (.t 3) 158 [] [],.v (.t 8) T3,.row (.t 0) true T91 91])] (by kernel_rfl)
def qdP(n:Nat):LK Tryz.prog false:=mkL tab (q9 n) [qdO n] Tryz.f195 [true,false,false] 0 n [.v (.t 1) T3,.v (.t 2) T3,.fn (.t 3) 158 [] [],.v (.t 8) T3,.row (.t 0) true T91 91] [(.exit 0,[.row (.t 0) true T91 91])] (by kernel_rfl)
def qbV(n:Nat):Cw Tryz.prog:=mkW tab (q9 n) [qdP n] Tryz.func195 [.v (.t 1) T3,.v (.t 2) T3,.fn (.t 3) 158 [] [],.row (.t 0) true T91 91] 4 [[.row (.t 0) true T91 91]] (by kernel_rfl)
def qnJ(n:Nat):CL Tryz.prog:=⟨[qdm n,qj4 n],[],0,nof⟩
def qos(n:Nat):Ct Tryz.prog:=mkC tab (qnJ n) [] Tryz.func194 [.d T95,.d T95] [T3] (by kernel_rfl)
def qcQ(n:Nat):CL Tryz.prog:=⟨[qos n],[],0,nof⟩
def qfJ(n:Nat):LK Tryz.prog false:=mkL tab (qcQ n) [] Tryz.f193 [true,false,true,false,false] 0 n [.v (.t 0) T89,.v (.t 1) T89,.fn (.t 2) 194 [] [],.v (.t 11) T89,.v (.t 12) T3,.v (.t 13) T3] [(.exit 0,[.v (.t 0) T89,.v (.t 1) T89]),(.ret,[.v (.t 6) T3])] (by kernel_rfl)
def qfT(n:Nat):Ct Tryz.prog:=mkC tab (qcQ n) [qfJ n] Tryz.func193 [.d T89,.d T89,.fn 194 [] []] [T3] (by kernel_rfl)
def qpd(n:Nat):CL Tryz.prog:=⟨[qdm n,qj4 n,qfT n],[],0,nof⟩
def qhg(n:Nat):Ct Tryz.prog:=mkC tab (qpd n) [] Tryz.func179 [.d T91,.d T91] [T3] (by kernel_rfl)
def qba(n:Nat):CL Tryz.prog:=⟨[qhg n],[],0,nof⟩
def qdQ(n:Nat):LK Tryz.prog false:=mkL tab (qba n) [] Tryz.f195 [true,false,false,true,false,false,true,false,false] 1 n [.v (.t 1) T3,.v (.t 2) T3,.fn (.t 3) 179 [] [],.v (.t 8) T3,.v (.t 9) T3,.row (.t 0) true T91 91] [(.exit 2,[.v (.t 1) T3,.v (.t 2) T3,.fn (.t 3) 179 [] [],.v (.t 8) T3,.row (.t 0) true T91 91])] (by kernel_rfl)
def qdR(n:Nat):LK Tryz.prog false:=mkL tab (qba n) [qdQ n] Tryz.f195 [true,false,false] 0 n [.v (.t 1) T3,.v (.t 2) T3,.fn (.t 3) 179 [] [],.v (.t 8) T3,.row (.t 0) true T91 91] [(.exit 0,[.row (.t 0) true T91 91])] (by kernel_rfl)
def qbW(n:Nat):Cw Tryz.prog:=mkW tab (qba n) [qdR n] Tryz.func195 [.v (.t 1) T3,.v (.t 2) T3,.fn (.t 3) 179 [] [],.row (.t 0) true T91 91] 4 [[.row (.t 0) true T91 91]] (by kernel_rfl)
def qna(n:Nat):CL Tryz.prog:=⟨[qeE n],[],0,nof⟩
def qjs(n:Nat):Ct Tryz.prog:=mkC tab (qna n) [] Tryz.func136 [.d T163] [T4] (by kernel_rfl)
def qcZ(n:Nat):CL Tryz.prog:=⟨[qjs n],[],0,nof⟩
def qf4(n:Nat):LK Tryz.prog false:=mkL tab (qcZ n) [] Tryz.f176 [true,false,true,false,false] 0 n [.v (.t 0) T32,.fn (.t 1) 136 [] [],.v (.t 7) T3,.v (.t 8) T3] [(.exit 0,[]),(.ret,[.v (.t 4) T3])] (by kernel_rfl)
def qf6(n:Nat):Ct Tryz.prog:=mkC tab (qcZ n) [qf4 n] Tryz.func176 [.d T32,.fn 136 [] []] [T3] (by kernel_rfl)
def qfw(n:Nat):CL Tryz.prog:=⟨[qjs n,qf6 n],[],0,nof⟩
def qfK(n:Nat):Ct Tryz.prog:=mkC tab (qfw n) [] Tryz.func135 [.d T32,.fn 136 [] []] [T4] (by kernel_rfl)
def qot(n:Nat):CL Tryz.prog:=⟨[qeE n,qfK n],[],0,nof⟩
def qpe(n:Nat):Ct Tryz.prog:=mkC tab (qot n) [] Tryz.func101 [.d T126] [T4] (by kernel_rfl)
def qnb(n:Nat):CL Tryz.prog:=⟨[qhg n],[],0,nof⟩
def qnK(n:Nat):Ct Tryz.prog:=mkC tab (qnb n) [] Tryz.func181 [.d T91,.d T91] [T4] (by kernel_rfl)
end
section
def qdj(n:Nat):CL Tryz.prog:=⟨[],[],0,fun _=>false⟩
def qfx(n:Nat):Nat→St→PT (DEx×St):=fun _ _=>.fail
theorem qh8(n:Nat):qJ (qdj n).c (qo Tryz.f192) 0=[]:=by kernel_rfl
theorem qh9:Tryz.f192.body=some (qo Tryz.f192):=by kernel_rfl
abbrev qdk:List It:=[.raw (.t 0),.v (.t 1) T3]
abbrev qc8:List (List It):=[[.row (.t 0) false T91 91]]
def qia(n:Nat)(x:qc qdk):Option (qV qc8):=runW tab (qdj n) (qfx n) (qo Tryz.f192) qdk 2 27 [.tmp 4] qc8 x
def qib(n:Nat):Cw Tryz.prog:=⟨192,2,qdk,1,qc8,qia n,fun _ _ h=>qhq (B:=tab) (cs:=qdj n) (lo:=qfx n) (rs:=[.tmp 4]) Tryz.func192 (by kernel_rfl) qh9 (by kernel_rfl) (by decide) (qgh (qh8 n) qdG) h⟩
def qdH(n:Nat):CL Tryz.prog:=⟨[],[qib n],1,nof⟩
def qiz(n:Nat):LK Tryz.prog false:=mkL tab (qdH n) [] Tryz.f178 [true,true,false,true,false,false] 0 n [.v (.t 0) T211,.v (.t 3) T3,.v (.t 9) T211,.v (.t 10) T3,.v (.t 11) T3] [(.exit 0,[.v (.t 0) T211,.v (.t 3) T3])] (by kernel_rfl)
def qiA(n:Nat):LK Tryz.prog false:=mkL tab (qdH n) [] Tryz.f178 [true,true,true,true,false,true,false,false] 1 n [.v (.t 25) T211,.v (.t 26) T3,.v (.t 27) T3,.row (.t 6) false T91 91] [(.exit 2,[.row (.t 6) false T91 91])] (by kernel_rfl)
def qi4(n:Nat):Cw Tryz.prog:=mkW tab (qdH n) [qiz n,qiA n] Tryz.func178 [.v (.t 0) T211] 1 [[.row (.t 0) false T91 91]] (by kernel_rfl)
abbrev qj:List It:=[.v (.t 1) T3,.v (.t 2) T3,.v (.t 3) T3,.fn (.t 4) 179 [] [],.row (.t 0) true T91 91]
abbrev qh:List (List It):=[[.row (.t 0) true T91 91]]
abbrev qd:Type:={g:qc qj→Option (qV qh) // qkx Tryz.prog 184 5 qj 0 qh g}
def qu(n:Nat)(g:qd):CL Tryz.prog:=⟨[qhg n],[qbV n,qbW n,⟨184,5,qj,0,qh,g.1,g.2⟩],0,fun _=>false⟩
def qcd(n:Nat)(g:qd):Nat→St→PT (DEx×St):=fun _ _=>.fail
abbrev qC:List It:=[.v (.t 1) T3,.v (.t 2) T3,.v (.t 3) T3,.fn (.t 4) 179 [] [],.v (.t 10) T4,.v (.t 11) T4,.row (.t 0) true T91 91]
abbrev qM:List (DEx×List It):=[(.ret,[.row (.t 0) true T91 91])]
def qeG(n:Nat)(g:qd)(rec:qc qC→Option (qW qM))(s:qc qC):Option (qW qM):=(qdi tab (qu n g) (qcd n g) (subC [true,true,false,false] (qo Tryz.f184)) 1 (mkS qC 148 s)).run (Lp.leaf 148 qC qM rec)
def qbn(n:Nat)(g:qd):Lp:=⟨148,qC,qM,qt n (qeG n g)⟩
theorem qeH(n:Nat)(g:qd):qJ (qu n g).c (subC [true,true,false,false] (qo Tryz.f184)) 1=[]:=by kernel_rfl
theorem qeh(n:Nat)(g:qd)(st:St)(r:DEx×St)(h:((qbn n g).go st).Is r):DA Tryz.prog false (.loop (subC [true,true,false,false] (qo Tryz.f184))) st r:=Lp.ok (L:=qbn n g) (B:=tab) (cs:=qu n g) (lo:=qcd n g) (id:=0) rfl (qgh (qeH n g) qdG) (fun _ _=>rfl) h
def qcl(n:Nat)(g:qd):Nat→St→PT (DEx×St):=fun k st=>match k with
 | 0=>(qbn n g).go st
 | _=>.fail
theorem qeQ(n:Nat)(g:qd):qJ (qu n g).c (qo Tryz.f184) 0=[(0,.loop (subC [true,true,false,false] (qo Tryz.f184)))]:=by kernel_rfl
theorem qeR:Tryz.f184.body=some (qo Tryz.f184):=by kernel_rfl
def qcm(n:Nat)(g:qd)(x:qc qj):Option (qV qh):=runW tab (qu n g) (qcl n g) (qo Tryz.f184) qj 5 148 [] qh x
theorem qeI(n:Nat)(g:qd):qkx Tryz.prog 184 5 qj 0 qh (qcm n g):=fun _ _ h=>qhq (B:=tab) (cs:=qu n g) (lo:=qcl n g) (rs:=[]) Tryz.func184 (by kernel_rfl) qeR (by kernel_rfl) (by decide) (qgh (qeQ n g) (all_cons (fun st r h=>qeh n g st r h) qdG)) h
def qO(n:Nat):Nat→qd
 | 0=>⟨fun _=>none,fun _ _ h=>by cases h⟩
 | k+1=>⟨qcm n (qO n k),qeI n (qO n k)⟩
def qeS(n:Nat)(x:qc qj):Option (qV qh):=(qO n n).1 x
def qcv(n:Nat):Cw Tryz.prog:=⟨184,5,qj,0,qh,qeS n,(qO n n).2⟩
def qfU(n:Nat):CL Tryz.prog:=⟨[qhX n,qhg n],[qcv n],0,nof⟩
def qc0(n:Nat):Cw Tryz.prog:=mkW tab (qfU n) [] Tryz.func157 [.fn (.t 1) 179 [] [],.row (.t 0) true T91 91] 2 [[.row (.t 0) true T91 91]] (by kernel_rfl)
abbrev qk:List It:=[.v (.t 1) T3,.v (.t 2) T3,.v (.t 3) T3,.fn (.t 4) 158 [] [],.row (.t 0) true T91 91]
abbrev qi:List (List It):=[[.row (.t 0) true T91 91]]
abbrev qe:Type:={g:qc qk→Option (qV qi) // qkx Tryz.prog 184 5 qk 0 qi g}
def qv(n:Nat)(g:qe):CL Tryz.prog:=⟨[qiy n],[qbV n,qbW n,⟨184,5,qk,0,qi,g.1,g.2⟩],0,fun _=>false⟩
def qce(n:Nat)(g:qe):Nat→St→PT (DEx×St):=fun _ _=>.fail
abbrev qD:List It:=[.v (.t 1) T3,.v (.t 2) T3,.v (.t 3) T3,.fn (.t 4) 158 [] [],.v (.t 10) T4,.v (.t 11) T4,.row (.t 0) true T91 91]
abbrev qN:List (DEx×List It):=[(.ret,[.row (.t 0) true T91 91])]
def qeJ(n:Nat)(g:qe)(rec:qc qD→Option (qW qN))(s:qc qD):Option (qW qN):=(qdi tab (qv n g) (qce n g) (subC [true,true,false,false] (qo Tryz.f184)) 1 (mkS qD 148 s)).run (Lp.leaf 148 qD qN rec)
def qbo(n:Nat)(g:qe):Lp:=⟨148,qD,qN,qt n (qeJ n g)⟩
theorem qeK(n:Nat)(g:qe):qJ (qv n g).c (subC [true,true,false,false] (qo Tryz.f184)) 1=[]:=by kernel_rfl
theorem qei(n:Nat)(g:qe)(st:St)(r:DEx×St)(h:((qbo n g).go st).Is r):DA Tryz.prog false (.loop (subC [true,true,false,false] (qo Tryz.f184))) st r:=Lp.ok (L:=qbo n g) (B:=tab) (cs:=qv n g) (lo:=qce n g) (id:=0) rfl (qgh (qeK n g) qdG) (fun _ _=>rfl) h
def qcn(n:Nat)(g:qe):Nat→St→PT (DEx×St):=fun k st=>match k with
 | 0=>(qbo n g).go st
 | _=>.fail
theorem qeT(n:Nat)(g:qe):qJ (qv n g).c (qo Tryz.f184) 0=[(0,.loop (subC [true,true,false,false] (qo Tryz.f184)))]:=by kernel_rfl
theorem qeU:Tryz.f184.body=some (qo Tryz.f184):=by kernel_rfl
def qco(n:Nat)(g:qe)(x:qc qk):Option (qV qi):=runW tab (qv n g) (qcn n g) (qo Tryz.f184) qk 5 148 [] qi x
theorem qeL(n:Nat)(g:qe):qkx Tryz.prog 184 5 qk 0 qi (qco n g):=fun _ _ h=>qhq (B:=tab) (cs:=qv n g) (lo:=qcn n g) (rs:=[]) Tryz.func184 (by kernel_rfl) qeU (by kernel_rfl) (by decide) (qgh (qeT n g) (all_cons (fun st r h=>qei n g st r h) qdG)) h
def qP(n:Nat):Nat→qe
 | 0=>⟨fun _=>none,fun _ _ h=>by cases h⟩
 | k+1=>⟨qco n (qP n k),qeL n (qP n k)⟩
def qeV(n:Nat)(x:qc qk):Option (qV qi):=(qP n n).1 x
def qeW(n:Nat):Cw Tryz.prog:=⟨184,5,qk,0,qi,qeV n,(qP n n).2⟩
def qfV(n:Nat):CL Tryz.prog:=⟨[qhX n,qiy n],[qcv n,qeW n],0,nof⟩
def qc1(n:Nat):Cw Tryz.prog:=mkW tab (qfV n) [] Tryz.func157 [.fn (.t 1) 158 [] [],.row (.t 0) true T91 91] 2 [[.row (.t 0) true T91 91]] (by kernel_rfl)
def qbp(n:Nat):CL Tryz.prog:=⟨[qnK n],[],0,nof⟩
def qeM(n:Nat):LK Tryz.prog false:=mkL tab (qbp n) [] Tryz.f180 [true,true,false,true,false,false,true,false,false,true,false,true,false,true,false,false] 1 n [.fn (.t 1) 181 [] [],.v (.t 5) T3,.v (.t 7) T3,.row (.t 0) true T91 91,.sub (.t 6) 0] [(.exit 2,[.v (.t 5) T3,.row (.t 0) true T91 91])] (by kernel_rfl)
def qeN(n:Nat):LK Tryz.prog false:=mkL tab (qbp n) [qeM n] Tryz.f180 [true,true,false,true,false,false] 0 n [.fn (.t 1) 181 [] [],.v (.t 5) T3,.row (.t 0) true T91 91] [(.exit 0,[.row (.t 0) true T91 91]),(.ret,[.row (.t 0) true T91 91,.sub (.t 4) 0])] (by kernel_rfl)
def qeX(n:Nat):Cw Tryz.prog:=mkW tab (qbp n) [qeN n] Tryz.func180 [.fn (.t 1) 181 [] [],.row (.t 0) true T91 91] 2 [[.row (.t 1) true T91 91,.sub (.t 0) 0]] (by kernel_rfl)
def qcw(n:Nat):CL Tryz.prog:=⟨[],[qkA n],0,nof⟩
def qeY(n:Nat):LK Tryz.prog false:=mkL tab (qcw n) [] Tryz.f58 [true,false,true,false,false] 0 n [.v (.t 7) T3,.v (.t 8) T3,.row (.t 0) true T91 91,.fnc (.t 1) 155 [.box true 35 1],.v (.c 1 0) T35] [(.exit 0,[.row (.t 0) true T91 91,.fnc (.t 1) 155 [.box true 35 1],.v (.c 1 0) T35]),(.ret,[.v (.t 4) T3,.row (.t 0) true T91 91,.fnc (.t 1) 155 [.box true 35 1],.v (.c 1 0) T35])] (by kernel_rfl)
def qbu(n:Nat):Cw Tryz.prog:=mkW tab (qcw n) [qeY n] Tryz.func58 [.row (.t 0) true T91 91,.fnc (.t 1) 155 [.box true 35 1],.v (.c 1 0) T35] 2 [[.v (.t 0) T3,.row (.t 1) true T91 91,.obj (.t 2) true 35 1,.v (.c 1 0) T35]] (by kernel_rfl)
def qcM(n:Nat):CL Tryz.prog:=⟨[],[qbu n,q8 n,qkA n],0,nof⟩
def qfy(n:Nat):LK Tryz.prog false:=mkL tab (qcM n) [] Tryz.f153 [true,true,true,false,true,false,false] 0 n [.v (.t 5) T3,.v (.t 6) T3,.row (.t 0) true T91 91,.fnc (.t 1) 155 [.box true 35 1],.v (.c 1 0) T35] [(.exit 0,[.v (.t 5) T3,.row (.t 0) true T91 91,.fnc (.t 1) 155 [.box true 35 1],.v (.c 1 0) T35])] (by kernel_rfl)
def qfL(n:Nat):Cw Tryz.prog:=mkW tab (qcM n) [qfy n] Tryz.func153 [.row (.t 0) true T91 91,.fnc (.t 1) 155 [.box true 35 1],.v (.c 1 0) T35] 2 [[.row (.t 1) true T91 91,.obj (.t 2) true 35 1,.v (.c 1 0) T35,.sub (.t 0) 0]] (by kernel_rfl)
abbrev qG:List It:=[.v (.t 1) T3,.v (.t 2) T3,.v (.t 3) T3,.row (.t 0) true T3 3]
abbrev qF:List (List It):=[[.row (.t 0) true T3 3]]
abbrev qx:Type:={g:qc qG→Option (qV qF) // qkx Tryz.prog 122 4 qG 0 qF g}
def qbk(n:Nat)(g:qx):CL Tryz.prog:=⟨[qla n],[qhm n,⟨122,4,qG,0,qF,g.1,g.2⟩],0,fun _=>false⟩
def qfz(n:Nat)(g:qx):Nat→St→PT (DEx×St):=fun _ _=>.fail
abbrev qbB:List It:=[.v (.t 1) T3,.v (.t 2) T3,.v (.t 3) T3,.v (.t 8) T4,.v (.t 9) T4,.row (.t 0) true T3 3]
abbrev qcr:List (DEx×List It):=[(.ret,[.row (.t 0) true T3 3])]
def qic(n:Nat)(g:qx)(rec:qc qbB→Option (qW qcr))(s:qc qbB):Option (qW qcr):=(qdi tab (qbk n g) (qfz n g) (subC [true,true,false,false] (qo Tryz.f122)) 1 (mkS qbB 134 s)).run (Lp.leaf 134 qbB qcr rec)
def qdu(n:Nat)(g:qx):Lp:=⟨134,qbB,qcr,qt n (qic n g)⟩
theorem qid(n:Nat)(g:qx):qJ (qbk n g).c (subC [true,true,false,false] (qo Tryz.f122)) 1=[]:=by kernel_rfl
theorem qhz(n:Nat)(g:qx)(st:St)(r:DEx×St)(h:((qdu n g).go st).Is r):DA Tryz.prog false (.loop (subC [true,true,false,false] (qo Tryz.f122))) st r:=Lp.ok (L:=qdu n g) (B:=tab) (cs:=qbk n g) (lo:=qfz n g) (id:=0) rfl (qgh (qid n g) qdG) (fun _ _=>rfl) h
def qfQ(n:Nat)(g:qx):Nat→St→PT (DEx×St):=fun k st=>match k with
 | 0=>(qdu n g).go st
 | _=>.fail
theorem qiB(n:Nat)(g:qx):qJ (qbk n g).c (qo Tryz.f122) 0=[(0,.loop (subC [true,true,false,false] (qo Tryz.f122)))]:=by kernel_rfl
theorem qiC:Tryz.f122.body=some (qo Tryz.f122):=by kernel_rfl
def qfR(n:Nat)(g:qx)(x:qc qG):Option (qV qF):=runW tab (qbk n g) (qfQ n g) (qo Tryz.f122) qG 4 134 [] qF x
theorem qie(n:Nat)(g:qx):qkx Tryz.prog 122 4 qG 0 qF (qfR n g):=fun _ _ h=>qhq (B:=tab) (cs:=qbk n g) (lo:=qfQ n g) (rs:=[]) Tryz.func122 (by kernel_rfl) qiC (by kernel_rfl) (by decide) (qgh (qiB n g) (all_cons (fun st r h=>qhz n g st r h) qdG)) h
def qcD(n:Nat):Nat→qx
 | 0=>⟨fun _=>none,fun _ _ h=>by cases h⟩
 | k+1=>⟨qfR n (qcD n k),qie n (qcD n k)⟩
def qiD(n:Nat)(x:qc qG):Option (qV qF):=(qcD n n).1 x
def qiE(n:Nat):Cw Tryz.prog:=⟨122,4,qG,0,qF,qiD n,(qcD n n).2⟩
def qms(n:Nat):CL Tryz.prog:=⟨[qhX n],[qiE n],0,nof⟩
def qnc(n:Nat):Cw Tryz.prog:=mkW tab (qms n) [] Tryz.func79 [.row (.t 0) true T3 3] 1 [[.row (.t 0) true T3 3]] (by kernel_rfl)
def qnL(n:Nat):CL Tryz.prog:=⟨[],[qc0 n,qc1 n,qi4 n,qeX n],1,nof⟩
def qj5(n:Nat):Cw Tryz.prog:=mkW tab (qnL n) [] Tryz.func141 [.v (.t 0) T211] 1 [[.row (.t 0) false T91 91]] (by kernel_rfl)
def qjH(n:Nat):CL Tryz.prog:=⟨[ql7 n],[],0,nof⟩
def qg5(n:Nat):Cw Tryz.prog:=mkW tab (qjH n) [] Tryz.func138 [.v (.t 0) T91,.obj (.t 1) true 126 2,.v (.c 0 0) T126] 2 [[.v (.t 0) T4,.obj (.t 1) true 126 2,.v (.c 0 0) T126]] (by kernel_rfl)
def qb1(n:Nat):CL Tryz.prog:=⟨[],[qg5 n],0,nof⟩
def qd5(n:Nat):LK Tryz.prog false:=mkL tab (qb1 n) [] Tryz.f58 [true,false,true,false,false] 0 n [.v (.t 0) T35,.v (.t 7) T3,.v (.t 8) T3,.fnc (.t 1) 138 [.box true 126 2],.v (.c 0 0) T126] [(.exit 0,[.fnc (.t 1) 138 [.box true 126 2],.v (.c 0 0) T126]),(.ret,[.v (.t 4) T3,.fnc (.t 1) 138 [.box true 126 2],.v (.c 0 0) T126])] (by kernel_rfl)
def qb5(n:Nat):Cw Tryz.prog:=mkW tab (qb1 n) [qd5 n] Tryz.func58 [.v (.t 0) T35,.fnc (.t 1) 138 [.box true 126 2],.v (.c 0 0) T126] 2 [[.v (.t 0) T3,.obj (.t 1) true 126 2,.v (.c 0 0) T126]] (by kernel_rfl)
def qdI(n:Nat):CL Tryz.prog:=⟨[],[qbu n,q8 n,qb5 n,qg5 n],0,nof⟩
def qdS(n:Nat):Cw Tryz.prog:=mkW tab (qdI n) [] Tryz.func137 [.v (.t 0) T35,.fnc (.t 1) 138 [.box true 126 2],.v (.c 0 0) T126] 2 [[.v (.t 0) T4,.obj (.t 1) true 126 2,.v (.c 0 0) T126]] (by kernel_rfl)
def qkK(n:Nat):CL Tryz.prog:=⟨[qru n],[qcu n,qdS n,qj5 n],1,nof⟩
def qlc(n:Nat):Ct Tryz.prog:=mkC tab (qkK n) [] Tryz.func102 [.d T126,.d T35] [T24] (by kernel_rfl)
def qqy(n:Nat):CL Tryz.prog:=⟨[qpe n,qlc n],[],0,nof⟩
def qj6(n:Nat):Ct Tryz.prog:=mkC tab (qqy n) [] Tryz.func61 [.d T34,.d T35] [T24] (by kernel_rfl)
end
section
def qc9(n:Nat):CL Tryz.prog:=⟨[],[],0,fun _=>false⟩
def qfa(n:Nat):Nat→St→PT (DEx×St):=fun _ _=>.fail
theorem qhY(n:Nat):qJ (qc9 n).c (qo Tryz.f154) 0=[]:=by kernel_rfl
theorem qhZ:Tryz.f154.body=some (qo Tryz.f154):=by kernel_rfl
abbrev qda:List It:=[.raw (.t 0)]
abbrev qcX:List (List It):=[[.row (.t 0) false T91 91]]
def qcf(n:Nat)(x:qc qda):Option (qV qcX):=runW tab (qc9 n) (qfa n) (qo Tryz.f154) qda 1 8 [.tmp 2] qcX x
def qh0(n:Nat):Cw Tryz.prog:=⟨154,1,qda,1,qcX,qcf n,fun _ _ h=>qhq (B:=tab) (cs:=qc9 n) (lo:=qfa n) (rs:=[.tmp 2]) Tryz.func154 (by kernel_rfl) qhZ (by kernel_rfl) (by decide) (qgh (qhY n) qdG) h⟩
def qd0(n:Nat):CL Tryz.prog:=⟨[],[],0,fun _=>false⟩
def qf9(n:Nat):Nat→St→PT (DEx×St):=fun _ _=>.fail
theorem qjd(n:Nat):qJ (qd0 n).c (qo Tryz.f154) 0=[]:=by kernel_rfl
theorem qje:Tryz.f154.body=some (qo Tryz.f154):=by kernel_rfl
abbrev qd1:List It:=[.v (.t 0) T35]
abbrev qcE:List (List It):=[[.row (.t 0) false T91 91]]
def qgs(n:Nat)(x:qc qd1):Option (qV qcE):=runW tab (qd0 n) (qf9 n) (qo Tryz.f154) qd1 1 8 [.tmp 2] qcE x
def qjf(n:Nat):Cw Tryz.prog:=⟨154,1,qd1,1,qcE,qgs n,fun _ _ h=>qhq (B:=tab) (cs:=qd0 n) (lo:=qf9 n) (rs:=[.tmp 2]) Tryz.func154 (by kernel_rfl) qje (by kernel_rfl) (by decide) (qgh (qjd n) qdG) h⟩
end
theorem qjg(n:Nat)(c:Nat):qcf n (.slice none 0 c,())=some ([],()):=by kernel_rfl
theorem qjh(n:Nat)(a:Addr)(c:Nat):qcf n (.slice (some a) 0 c,())=some ([],()):=by kernel_rfl
def qji(n:Nat):Cw Tryz.prog:=qso 154 T91 qcE (qcf n) (qgs n) ([],()) (fun v y m0 h=>(qh0 n).okk (x:=(v,())) (y:=y) h m0 (ql6 m0)) (fun l y m0 h=>(qjf n).okk (x:=(l,())) (y:=y) h m0 (ql6 m0)) (fun A c=>by cases A with | none=>exact qjg n c | some a=>exact qjh n a c)
set_option maxHeartbeats 4000000
def qiF(hut:Int)(lo:Int):Nat→List (Int×Int)
 | 0=>[]
 | n+1=>(hut,lo)::qiF hut (lo+1) n
def qpf(s:Int×(Int×Int)):List (Int×Int):=qiF s.1 s.2.1 (s.2.2+1-s.2.1).toNat
def qdl:List (Int×(Int×Int))→List (Int×Int)
 | []=>[]
 | s::l=>qpf s++qdl l
def qrv(l:List (Int×(Int×Int))):Bool:=Nat.ble l.length 1000000&&l.all fun s=>decide (-9223372036854775808≤s.2.1)&&decide (s.2.2<9223372036854775807)
def qpg(y:Int×Int):qA [T158]:=(y,())
theorem qqr(l:List (Int×Int)):((l.map qpg).map (tysA [T158])).length=l.length:=by rw[List.length_map,List.length_map]
def qph(l:List (Int×(Int×Int))):Option (List (qA [T158])):=cond (qrv l) (some ((qdl l).map qpg)) none
def qfA(l:List (Int×(Int×Int)))(k:Nat):Nat:=(qdl (l.take k)).length
theorem qkL(h:Int):∀(n:Nat) (lo:Int),(qiF h lo n).length=n
 | 0,_=>rfl
 | n+1,lo=>by simp[qiF,qkL h n]
theorem qpi(h:Int):∀(n:Nat) (lo:Int) (j:Nat),j<n→(qiF h lo n)[j]?=some (h,lo+j)
 | n+1,lo,0,_=>by simp[qiF]
 | n+1,lo,j+1,hj=>by
  simp only[qiF,List.getElem?_cons_succ]
  rw[qpi h n (lo+1) j (by omega)]
  congr 2
  omega
theorem ql8:∀(l m:List (Int×(Int×Int))),qdl (l++m)=qdl l++qdl m
 | [],_=>rfl
 | s::l,m=>by simp[qdl,ql8 l m]
theorem qsW(l:List (Int×(Int×Int)))(k:Nat)(hk:k<l.length):qfA l (k+1)=qfA l k+(l[k].2.2+1-l[k].2.1).toNat:=by
 unfold qfA
 rw[List.take_succ_eq_append_getElem hk,ql8]
 simp[qdl,qpf,qkL]
theorem qtX(l:List (Int×(Int×Int))):qfA l l.length=(qdl l).length:=by unfold qfA;simp
theorem qu5(l:List (Int×(Int×Int)))(k:Nat)(hk:k<l.length)(j:Nat)(hj:j<(l[k].2.2+1-l[k].2.1).toNat):(qdl l)[qfA l k+j]?=some (l[k].1,l[k].2.1+j):=by
 have h1:l=l.take k++l[k]::l.drop (k+1):=by simp
 have h2:qdl l=qdl (l.take k)++(qpf l[k]++qdl (l.drop (k+1))):=by
  conv=>lhs;rw[h1]
  rw[ql8];rfl
 rw[h2,List.getElem?_append_right (by unfold qfA;omega),show qfA l k+j-(qdl (l.take k)).length=j by unfold qfA;omega,List.getElem?_append_left (by unfold qpf;rw[qkL];exact hj)]
 exact qpi _ _ _ _ hj
theorem qvy{a b:Int}(h:a=b):[AV.int a]=[AV.int b]:=by rw[h]
theorem qu6(x:qA [T91])(l:List (qA [T158]))(h:qph x.1.2.2.2.2=some l):qoI Tryz.prog false 183 [] (qep [T91] x) (l.map (tysA [T158])):=by
 obtain ⟨⟨ma,mb,mc,md,ss⟩,u⟩:=x
 change List (Int×(Int×Int)) at ss
 unfold qph at h
 cases hb:qrv ss with
 | false=>simp only at h;rw[hb] at h;cases h
 | true =>
 simp only at h;rw[hb] at h
 injection h with h
 subst h
 unfold qrv at hb
 simp only[Bool.and_eq_true,Nat.ble_eq,List.all_eq_true,decide_eq_true_eq] at hb
 obtain ⟨hlen,hbd⟩:=hb
 refine ⟨enters_of Tryz.func183 (by kernel_rfl) rfl,fun lp T J Jx X hcJ hcx hone hy=>?_⟩
 have hyk:∀k (hk:k<ss.length) (j:Nat),j<(ss[k].2.2+1-ss[k].2.1).toNat→qoH Tryz.prog T lp [.agg [.int ss[k].1,.int (ss[k].2.1+j)]] (J (qfA ss k+j)) (J (qfA ss k+j+1)) Jx:=fun k hk j hj=>by
  have h1:=qu5 ss k hk j hj
  have h2:=(List.getElem?_eq_some_iff.1 h1).1
  have h3:=hy (qfA ss k+j) (by rw[qqr];exact h2)
  rw[List.getElem_map,List.getElem_map,(List.getElem?_eq_some_iff.1 h1).2] at h3
  exact h3
 have hY:=Lib.hid hyk
 have hN:=Lib.hid (qsW ss)
 have hN0:qfA ss 0=0:=rfl
 have hNl:qfA ss ss.length=(((qdl ss).map qpg).map (tysA [T158])).length:=by rw[qtX,qqr]
 show MCT Tryz.prog T 183 [.val (.func (.yield lp) #[] #[]),.rp [.val (.int .i64 ma),.val (.int .i64 mb),.val (.int .i64 mc),.val (.int .i64 md),.sl 3 (ss.map fun s=>[.val (.int .i64 s.1),.val (.int .i64 s.2.1),.val (.int .i64 s.2.2)])]] [.nodef,.ghost X (J 0)] fun _ H'=>∃X',HE.ghost X' (J (((qdl ss).map qpg).map (tysA [T158])).length)∈H'∨HE.ghost X' Jx∈H'
 rw[← hNl,← hN0]
 clear hy hyk hNl
 generalize hrr:(ss.map fun s=>[AV.val (.int .i64 s.1),AV.val (.int .i64 s.2.1),AV.val (.int .i64 s.2.2)])=rr
 have hrl:rr.length=ss.length:=by rw[← hrr];simp
 have hra:∀k (hk:k<ss.length),rr[k]?=some [.int ss[k].1,.int ss[k].2.1,.int ss[k].2.2]:=fun k hk=>by rw[← hrr,List.getElem?_map,List.getElem?_eq_getElem hk];rfl
 (refine MCT.of Tryz.func183 (by kernel_rfl) rfl (by simp only[Tryz.ntmps183,List.length_cons,List.length_nil,Nat.reduceAdd,Nat.reduceSub,List.replicate_succ,List.replicate_zero,List.cons_append,List.nil_append];rfl) fun w0 S hM hT=>?_;have hF:Wf Fence.wide:=.inl rfl)
 (repeat' (first | ((first | with_reducible refine AL.id_ ?_ | with_reducible refine AE.id_ ?_);first | refine AL.build0 hF rfl rfl rfl (fun b=>⟨_,(by simp only[AV.put];rfl),?_⟩) | refine W.s rfl rfl (by first | exact AY.bx rfl (by simp only[evO,AV.get];rfl) rfl | exact AY.mkFn rfl (by simp only[List.map_cons,List.map_nil,evO,AV.get];rfl) | exact AY.mkFn1 rfl (by simp only[evO,AV.get];rfl) (by simp only[List.map_cons,List.map_nil,evO,AV.get];rfl) | exact hEQ rfl rfl rfl | exact Step2.sound (by first | (((first | (apply Step2.a;constructor) | (apply Step2.b;constructor))<;>first | infer_instance | skip)<;>(first | infer_instance | (refine w64c ?_;omega) | (refine qlD ?_;omega) | (refine qjS ?_;omega) | (refine qjT ?_;omega) | (refine qlA ?_;omega) | ((repeat (first | exact .head _ | refine .tail _ ?_));done) | assumption | (simp only[List.drop_succ_cons,List.drop_zero,List.length_map,Nat.zero_add,Nat.mul_one];rfl) | rfl | omega | (simp;done))) | fail) rfl | exact AY.call rfl rfl _ rfl (by fail) | exact AY.slice1 rfl rfl rfl (by rfl) (by first | (simp;done) | fail) | exact AY.callF rfl _ _ rfl _ rfl (by fail) | exact AY.old1k 0 rfl rfl rfl (by first | assumption | rfl) | exact AY.old1k 1 rfl rfl rfl (by first | assumption | rfl) | exact AY.old1k 2 rfl rfl rfl (by first | assumption | rfl) | exact AY.oldNk 0 rfl rfl rfl (by first | omega | (simp;omega)) (by first | assumption | rfl) | exact AY.oldNk 1 rfl rfl rfl (by first | omega | (simp;omega)) (by first | assumption | rfl)) (by simp only[AV.put];rfl) ?_ | (refine AL.nilK (hK _ _ ?_);clear hK K) | (refine AE.nil (hK _ ?_);clear hK K) | refine W.k rfl rfl (by simp only[AV.put];rfl) ?_ | refine AL.unguardS rfl rfl ?_ | refine AL.al hF rfl rfl rfl (by first | (simp only[Value.cells,List.map_cons,List.map_nil];rfl) | rfl) (fun b=>⟨_,(by simp only[AV.put];rfl),?_⟩) | refine AL.st1 hF rfl rfl rfl rfl (by simp only[evO,AV.get];rfl) (by first | exact qgH | exact qgI | exact qgJ | exact qgK | exact qgL | exact qgM | exact qgN | exact qgO) (by rfl) rfl (by rfl) (by first | (simp;done) | (simp;omega) | omega) (by simp only[List.set];rfl) ?_ | refine AL.stW hF rfl rfl rfl rfl (by simp only[evO,AV.get];rfl) (by first | exact qgH | exact qgI | exact qgJ | exact qgK | exact qgL | exact qgM | exact qgN | exact qgO) (by rfl) (by rfl) (by rfl) (by first | rfl | simp) (by simp only[List.set];rfl) ?_) | (with_reducible refine Awp.id_ ?_;first | refine Awp.seq ?_ | refine Awp.regionK (by first | (simp only[AV.putO,AV.put];rfl) | rfl) (fun K hK=>?_) | refine Awp.drawE (by first | (simp only[AV.putO,AV.put];rfl) | rfl) mixed rfl (by kernel_rfl) (fun K hK=>?_) | refine Awp.block ?_ | refine Awp.skip ?_ | refine Awp.exit ?_ | refine Awp.ret ?_ | refine Awp.condT rfl ?_ | refine Awp.condF rfl ?_) | refine qil ?_ | refine qim ?_ | refine qin ?_ | refine qgb ?_ | refine qgc ?_ | refine qgd ?_ | refine qge rfl ?_ | ((first | ((first | with_reducible refine AL.id_ ?_ | with_reducible refine AE.id_ ?_);(fail_if_success refine W.on rfl ?_);refine W.p rfl rfl (by simp only[AV.put];rfl) (by simp only[AV.put];rfl) (fun hb=>?_) (fun hb=>?_)) | (with_reducible refine Awp.id_ ?_;refine Awp.cond _ rfl (fun hb=>?_) (fun hb=>?_)))<;>(try simp only[z1,z2,z3,z4,z5,z6,z7,z8,y5,y6,y7,y8,z9,x1,x2,x3,x4,x5,x6,x7,x8] at hb;try (exfalso;omega)))))
 refine Awp.loopM [4,5,10,11,12,13,14,15,16,17,18,19,20,21,22,23,24,25,26,27,28,29,30] [9] (fun n vs H=>∃(k:Nat) (X':Nat→Prop),n+k=ss.length∧vs=[.int k]∧H=[.nodef,.ghost X' (J (qfA ss k))]) ss.length ⟨0,X,rfl,rfl,rfl⟩ ?_
 rintro n ju vs H ⟨k,X',hk,rfl,rfl⟩
 (refine Awp.slots (by first | (simp only[putl,mask,AV.put];rfl) | rfl) ?_)
 by_cases hlt:k<ss.length
 ·have hrow:=hra k hlt
  have hYk:=Lib.hid (hY.out k hlt)
  have hNk:=hN.out k hlt
  obtain ⟨hb1,hb2⟩:=hbd _ (List.getElem_mem hlt)
  generalize ss[k].1=hu at *
  generalize ss[k].2.1=lo at *
  generalize ss[k].2.2=hi at *
  (repeat' (first | ((first | with_reducible refine AL.id_ ?_ | with_reducible refine AE.id_ ?_);first | refine AL.build0 hF rfl rfl rfl (fun b=>⟨_,(by simp only[AV.put];rfl),?_⟩) | refine W.s rfl rfl (by first | exact AY.bx rfl (by simp only[evO,AV.get];rfl) rfl | exact AY.mkFn rfl (by simp only[List.map_cons,List.map_nil,evO,AV.get];rfl) | exact AY.mkFn1 rfl (by simp only[evO,AV.get];rfl) (by simp only[List.map_cons,List.map_nil,evO,AV.get];rfl) | exact hEQ rfl rfl rfl | exact Step2.sound (by first | (((first | (apply Step2.a;constructor) | (apply Step2.b;constructor))<;>first | infer_instance | skip)<;>(first | infer_instance | (refine w64c ?_;omega) | (refine qlD ?_;omega) | (refine qjS ?_;omega) | (refine qjT ?_;omega) | (refine qlA ?_;omega) | ((repeat (first | exact .head _ | refine .tail _ ?_));done) | assumption | (simp only[List.drop_succ_cons,List.drop_zero,List.length_map,Nat.zero_add,Nat.mul_one];rfl) | rfl | omega | (simp;done))) | fail) rfl | exact AY.call rfl rfl _ rfl (by fail) | exact AY.slice1 rfl rfl rfl (by rfl) (by first | (simp;done) | fail) | exact AY.callF rfl _ _ rfl _ rfl (by fail) | exact AY.old1k 0 rfl rfl rfl (by first | assumption | rfl) | exact AY.old1k 1 rfl rfl rfl (by first | assumption | rfl) | exact AY.old1k 2 rfl rfl rfl (by first | assumption | rfl) | exact AY.oldNk 0 rfl rfl rfl (by first | omega | (simp;omega)) (by first | assumption | rfl) | exact AY.oldNk 1 rfl rfl rfl (by first | omega | (simp;omega)) (by first | assumption | rfl)) (by simp only[AV.put];rfl) ?_ | (refine AL.nilK (hK _ _ ?_);clear hK K) | (refine AE.nil (hK _ ?_);clear hK K) | refine W.k rfl rfl (by simp only[AV.put];rfl) ?_ | refine AL.unguardS rfl rfl ?_ | refine AL.al hF rfl rfl rfl (by first | (simp only[Value.cells,List.map_cons,List.map_nil];rfl) | rfl) (fun b=>⟨_,(by simp only[AV.put];rfl),?_⟩) | refine AL.st1 hF rfl rfl rfl rfl (by simp only[evO,AV.get];rfl) (by first | exact qgH | exact qgI | exact qgJ | exact qgK | exact qgL | exact qgM | exact qgN | exact qgO) (by rfl) rfl (by rfl) (by first | (simp;done) | (simp;omega) | omega) (by simp only[List.set];rfl) ?_ | refine AL.stW hF rfl rfl rfl rfl (by simp only[evO,AV.get];rfl) (by first | exact qgH | exact qgI | exact qgJ | exact qgK | exact qgL | exact qgM | exact qgN | exact qgO) (by rfl) (by rfl) (by rfl) (by first | rfl | simp) (by simp only[List.set];rfl) ?_) | (with_reducible refine Awp.id_ ?_;first | refine Awp.seq ?_ | refine Awp.regionK (by first | (simp only[AV.putO,AV.put];rfl) | rfl) (fun K hK=>?_) | refine Awp.drawE (by first | (simp only[AV.putO,AV.put];rfl) | rfl) mixed rfl (by kernel_rfl) (fun K hK=>?_) | refine Awp.block ?_ | refine Awp.skip ?_ | refine Awp.exit ?_ | refine Awp.ret ?_ | refine Awp.condT rfl ?_ | refine Awp.condF rfl ?_) | refine qil ?_ | refine qim ?_ | refine qin ?_ | refine qgb ?_ | refine qgc ?_ | refine qgd ?_ | refine qge rfl ?_ | ((first | ((first | with_reducible refine AL.id_ ?_ | with_reducible refine AE.id_ ?_);(fail_if_success refine W.on rfl ?_);refine W.p rfl rfl (by simp only[AV.put];rfl) (by simp only[AV.put];rfl) (fun hb=>?_) (fun hb=>?_)) | (with_reducible refine Awp.id_ ?_;refine Awp.cond _ rfl (fun hb=>?_) (fun hb=>?_)))<;>(try simp only[z1,z2,z3,z4,z5,z6,z7,z8,y5,y6,y7,y8,z9,x1,x2,x3,x4,x5,x6,x7,x8] at hb;try (exfalso;omega)))))
  refine Awp.loopM [16,17,18,19,20,21,22,23,24,25,26,27,28,29] [5] (fun n vs H=>∃(j:Nat) (X3:Nat→Prop),n+j=(hi+1-lo).toNat∧vs=[.int (lo+j)]∧H=[.blk b 95 [.int hu,.int lo,.int hi],.nodef,.ghost X3 (J (qfA ss k+j))]) (hi+1-lo).toNat ⟨0,X',by omega,by simp;rfl,rfl⟩ ?_
  rintro n1 ju1 vs1 H1 ⟨j,X3,hj,rfl,rfl⟩
  (refine Awp.slots (by first | (simp only[putl,mask,AV.put];rfl) | rfl) ?_)
  by_cases hlt2:j<(hi+1-lo).toNat
  ·have hle:lo+j≤hi:=by omega
   have hye:=hYk.out j hlt2
   (repeat' (first | ((first | with_reducible refine AL.id_ ?_ | with_reducible refine AE.id_ ?_);first | refine AL.build0 hF rfl rfl rfl (fun b=>⟨_,(by simp only[AV.put];rfl),?_⟩) | refine W.s rfl rfl (by first | exact AY.bx rfl (by simp only[evO,AV.get];rfl) rfl | exact AY.mkFn rfl (by simp only[List.map_cons,List.map_nil,evO,AV.get];rfl) | exact AY.mkFn1 rfl (by simp only[evO,AV.get];rfl) (by simp only[List.map_cons,List.map_nil,evO,AV.get];rfl) | exact AY.build rfl (by simp only[List.map_cons,List.map_nil,evO,AV.get];rfl) (by simp only[List.map_cons,List.map_nil];repeat (first | exact Places.nil | apply Places.cons)) (by first | (simp only[zip3,qbH,qcB,qbb,qq,qdX,List.map_cons,List.map_nil,List.length_cons,List.length_nil,List.take_succ_cons,List.take_zero,List.drop_succ_cons,List.drop_zero,List.replicate_succ,List.replicate_zero,List.cons_append,List.nil_append,List.append_nil,List.drop_nil,List.take_nil,List.toList_toArray,Nat.sub_zero,Nat.reduceSub,Nat.reduceAdd,Nat.reduceMul,Nat.zero_mul,Nat.one_mul,Nat.mul_one,Nat.zero_add,Nat.le_refl,Nat.reduceLeDiff,and_self,true_and,and_true,if_true];rfl) | rfl) | exact AY.buildS rfl (by simp only[List.map_cons,List.map_nil,evO,AV.get];rfl) (by first | rfl | decide) (by omega) (by first | (simp only[zip3,qbH,qcB,qbb,qq,qdX,List.map_cons,List.map_nil,List.length_cons,List.length_nil,List.take_succ_cons,List.take_zero,List.drop_succ_cons,List.drop_zero,List.replicate_succ,List.replicate_zero,List.cons_append,List.nil_append,List.append_nil,List.drop_nil,List.take_nil,List.toList_toArray,Nat.sub_zero,Nat.reduceSub,Nat.reduceAdd,Nat.reduceMul,Nat.zero_mul,Nat.one_mul,Nat.mul_one,Nat.zero_add,Nat.le_refl,Nat.reduceLeDiff,and_self,true_and,and_true,if_true];rfl) | rfl) (by first | (simp only[zip3,qbH,qcB,qbb,qq,qdX,List.map_cons,List.map_nil,List.length_cons,List.length_nil,List.take_succ_cons,List.take_zero,List.drop_succ_cons,List.drop_zero,List.replicate_succ,List.replicate_zero,List.cons_append,List.nil_append,List.append_nil,List.drop_nil,List.take_nil,List.toList_toArray,Nat.sub_zero,Nat.reduceSub,Nat.reduceAdd,Nat.reduceMul,Nat.zero_mul,Nat.one_mul,Nat.mul_one,Nat.zero_add,Nat.le_refl,Nat.reduceLeDiff,and_self,true_and,and_true,if_true];rfl) | rfl) | exact hEQ rfl rfl rfl | exact Step2.sound (by first | (((first | (apply Step2.a;constructor) | (apply Step2.b;constructor))<;>first | infer_instance | skip)<;>(first | infer_instance | (refine w64c ?_;omega) | (refine qlD ?_;omega) | (refine qjS ?_;omega) | (refine qjT ?_;omega) | (refine qlA ?_;omega) | ((repeat (first | exact .head _ | refine .tail _ ?_));done) | assumption | (simp only[List.drop_succ_cons,List.drop_zero,List.length_map,Nat.zero_add,Nat.mul_one];rfl) | rfl | omega | (simp;done))) | fail) rfl | exact AY.call rfl rfl _ rfl (by fail) | exact AY.slice1 rfl rfl rfl (by rfl) (by first | (simp;done) | fail) | exact AY.callF rfl _ _ rfl _ rfl (by fail) | exact AY.old1k 0 rfl rfl rfl (by first | assumption | rfl) | exact AY.old1k 1 rfl rfl rfl (by first | assumption | rfl) | exact AY.old1k 2 rfl rfl rfl (by first | assumption | rfl) | exact AY.oldNk 0 rfl rfl rfl (by first | omega | (simp;omega)) (by first | assumption | rfl) | exact AY.oldNk 1 rfl rfl rfl (by first | omega | (simp;omega)) (by first | assumption | rfl)) (by simp only[AV.put];rfl) ?_ | (refine AL.nilK (hK _ _ ?_);clear hK K) | (refine AE.nil (hK _ ?_);clear hK K) | refine W.k rfl rfl (by simp only[AV.put];rfl) ?_ | refine AL.unguardS rfl rfl ?_ | refine AL.al hF rfl rfl rfl (by first | (simp only[Value.cells,List.map_cons,List.map_nil];rfl) | rfl) (fun b=>⟨_,(by simp only[AV.put];rfl),?_⟩) | refine AL.st1 hF rfl rfl rfl rfl (by simp only[evO,AV.get];rfl) (by first | exact qgH | exact qgI | exact qgJ | exact qgK | exact qgL | exact qgM | exact qgN | exact qgO) (by rfl) rfl (by rfl) (by first | (simp;done) | (simp;omega) | omega) (by simp only[List.set];rfl) ?_ | refine AL.stW hF rfl rfl rfl rfl (by simp only[evO,AV.get];rfl) (by first | exact qgH | exact qgI | exact qgJ | exact qgK | exact qgL | exact qgM | exact qgN | exact qgO) (by rfl) (by rfl) (by rfl) (by first | rfl | simp) (by simp only[List.set];rfl) ?_) | (with_reducible refine Awp.id_ ?_;first | refine Awp.seq ?_ | refine Awp.regionK (by first | (simp only[AV.putO,AV.put];rfl) | rfl) (fun K hK=>?_) | refine Awp.drawE (by first | (simp only[AV.putO,AV.put];rfl) | rfl) mixed rfl (by kernel_rfl) (fun K hK=>?_) | refine Awp.block ?_ | refine Awp.skip ?_ | refine Awp.exit ?_ | refine Awp.ret ?_ | refine Awp.condT rfl ?_ | refine Awp.condF rfl ?_) | refine qil ?_ | refine qim ?_ | refine qin ?_ | refine qgb ?_ | refine qgc ?_ | refine qgd ?_ | refine qge rfl ?_ | ((first | ((first | with_reducible refine AL.id_ ?_ | with_reducible refine AE.id_ ?_);(fail_if_success refine W.on rfl ?_);refine W.p rfl rfl (by simp only[AV.put];rfl) (by simp only[AV.put];rfl) (fun hb=>?_) (fun hb=>?_)) | (with_reducible refine Awp.id_ ?_;refine Awp.cond _ rfl (fun hb=>?_) (fun hb=>?_)))<;>(try simp only[z1,z2,z3,z4,z5,z6,z7,z8,y5,y6,y7,y8,z9,x1,x2,x3,x4,x5,x6,x7,x8] at hb;try (exfalso;omega)))))
   have hgho:∀i e,([HE.blk b 95 [.int hu,.int lo,.int hi],.nodef,.ghost X3 (J (qfA ss k+j))])[i]?=some e→e.isGhost→i=2:=fun i e h1 h2=>by
    match i,h1 with
    | 0,h1=>cases h1;exact h2.elim
    | 1,h1=>cases h1;exact h2.elim
    | 2,_=>rfl
   refine AL.yield 2 rfl rfl rfl rfl _ rfl rfl hgho (by simp) (fun b hA=>hT b fun h=>(hA.1 h).1) hye (hcJ _) hcx (fun X4=>?_) (fun X4=>?_)
   ·refine AL.norm (by simp only[AV.put];rfl) rfl ?_
    (repeat' (first | ((first | with_reducible refine AL.id_ ?_ | with_reducible refine AE.id_ ?_);first | refine AL.build0 hF rfl rfl rfl (fun b=>⟨_,(by simp only[AV.put];rfl),?_⟩) | refine W.s rfl rfl (by first | exact AY.bx rfl (by simp only[evO,AV.get];rfl) rfl | exact AY.mkFn rfl (by simp only[List.map_cons,List.map_nil,evO,AV.get];rfl) | exact AY.mkFn1 rfl (by simp only[evO,AV.get];rfl) (by simp only[List.map_cons,List.map_nil,evO,AV.get];rfl) | exact AY.build rfl (by simp only[List.map_cons,List.map_nil,evO,AV.get];rfl) (by simp only[List.map_cons,List.map_nil];repeat (first | exact Places.nil | apply Places.cons)) (by first | (simp only[zip3,qbH,qcB,qbb,qq,qdX,List.map_cons,List.map_nil,List.length_cons,List.length_nil,List.take_succ_cons,List.take_zero,List.drop_succ_cons,List.drop_zero,List.replicate_succ,List.replicate_zero,List.cons_append,List.nil_append,List.append_nil,List.drop_nil,List.take_nil,List.toList_toArray,Nat.sub_zero,Nat.reduceSub,Nat.reduceAdd,Nat.reduceMul,Nat.zero_mul,Nat.one_mul,Nat.mul_one,Nat.zero_add,Nat.le_refl,Nat.reduceLeDiff,and_self,true_and,and_true,if_true];rfl) | rfl) | exact AY.buildS rfl (by simp only[List.map_cons,List.map_nil,evO,AV.get];rfl) (by first | rfl | decide) (by omega) (by first | (simp only[zip3,qbH,qcB,qbb,qq,qdX,List.map_cons,List.map_nil,List.length_cons,List.length_nil,List.take_succ_cons,List.take_zero,List.drop_succ_cons,List.drop_zero,List.replicate_succ,List.replicate_zero,List.cons_append,List.nil_append,List.append_nil,List.drop_nil,List.take_nil,List.toList_toArray,Nat.sub_zero,Nat.reduceSub,Nat.reduceAdd,Nat.reduceMul,Nat.zero_mul,Nat.one_mul,Nat.mul_one,Nat.zero_add,Nat.le_refl,Nat.reduceLeDiff,and_self,true_and,and_true,if_true];rfl) | rfl) (by first | (simp only[zip3,qbH,qcB,qbb,qq,qdX,List.map_cons,List.map_nil,List.length_cons,List.length_nil,List.take_succ_cons,List.take_zero,List.drop_succ_cons,List.drop_zero,List.replicate_succ,List.replicate_zero,List.cons_append,List.nil_append,List.append_nil,List.drop_nil,List.take_nil,List.toList_toArray,Nat.sub_zero,Nat.reduceSub,Nat.reduceAdd,Nat.reduceMul,Nat.zero_mul,Nat.one_mul,Nat.mul_one,Nat.zero_add,Nat.le_refl,Nat.reduceLeDiff,and_self,true_and,and_true,if_true];rfl) | rfl) | exact hEQ rfl rfl rfl | exact Step2.sound (by first | (((first | (apply Step2.a;constructor) | (apply Step2.b;constructor))<;>first | infer_instance | skip)<;>(first | infer_instance | (refine w64c ?_;omega) | (refine qlD ?_;omega) | (refine qjS ?_;omega) | (refine qjT ?_;omega) | (refine qlA ?_;omega) | ((repeat (first | exact .head _ | refine .tail _ ?_));done) | assumption | (simp only[List.drop_succ_cons,List.drop_zero,List.length_map,Nat.zero_add,Nat.mul_one];rfl) | rfl | omega | (simp;done))) | fail) rfl | exact AY.call rfl rfl _ rfl (by fail) | exact AY.slice1 rfl rfl rfl (by rfl) (by first | (simp;done) | fail) | exact AY.callF rfl _ _ rfl _ rfl (by fail) | exact AY.old1k 0 rfl rfl rfl (by first | assumption | rfl) | exact AY.old1k 1 rfl rfl rfl (by first | assumption | rfl) | exact AY.old1k 2 rfl rfl rfl (by first | assumption | rfl) | exact AY.oldNk 0 rfl rfl rfl (by first | omega | (simp;omega)) (by first | assumption | rfl) | exact AY.oldNk 1 rfl rfl rfl (by first | omega | (simp;omega)) (by first | assumption | rfl)) (by simp only[AV.put];rfl) ?_ | (refine AL.nilK (hK _ _ ?_);clear hK K) | (refine AE.nil (hK _ ?_);clear hK K) | refine W.k rfl rfl (by simp only[AV.put];rfl) ?_ | refine AL.unguardS rfl rfl ?_ | refine AL.al hF rfl rfl rfl (by first | (simp only[Value.cells,List.map_cons,List.map_nil];rfl) | rfl) (fun b=>⟨_,(by simp only[AV.put];rfl),?_⟩) | refine AL.st1 hF rfl rfl rfl rfl (by simp only[evO,AV.get];rfl) (by first | exact qgH | exact qgI | exact qgJ | exact qgK | exact qgL | exact qgM | exact qgN | exact qgO) (by rfl) rfl (by rfl) (by first | (simp;done) | (simp;omega) | omega) (by simp only[List.set];rfl) ?_ | refine AL.stW hF rfl rfl rfl rfl (by simp only[evO,AV.get];rfl) (by first | exact qgH | exact qgI | exact qgJ | exact qgK | exact qgL | exact qgM | exact qgN | exact qgO) (by rfl) (by rfl) (by rfl) (by first | rfl | simp) (by simp only[List.set];rfl) ?_) | (with_reducible refine Awp.id_ ?_;first | refine Awp.seq ?_ | refine Awp.regionK (by first | (simp only[AV.putO,AV.put];rfl) | rfl) (fun K hK=>?_) | refine Awp.drawE (by first | (simp only[AV.putO,AV.put];rfl) | rfl) mixed rfl (by kernel_rfl) (fun K hK=>?_) | refine Awp.block ?_ | refine Awp.skip ?_ | refine Awp.exit ?_ | refine Awp.ret ?_ | refine Awp.condT rfl ?_ | refine Awp.condF rfl ?_) | refine qil ?_ | refine qim ?_ | refine qin ?_ | refine qgb ?_ | refine qgc ?_ | refine qgd ?_ | refine qge rfl ?_ | ((first | ((first | with_reducible refine AL.id_ ?_ | with_reducible refine AE.id_ ?_);(fail_if_success refine W.on rfl ?_);refine W.p rfl rfl (by simp only[AV.put];rfl) (by simp only[AV.put];rfl) (fun hb=>?_) (fun hb=>?_)) | (with_reducible refine Awp.id_ ?_;refine Awp.cond _ rfl (fun hb=>?_) (fun hb=>?_)))<;>(try simp only[z1,z2,z3,z4,z5,z6,z7,z8,y5,y6,y7,y8,z9,x1,x2,x3,x4,x5,x6,x7,x8] at hb;try (exfalso;omega)))))
    (refine qvF (n1-1) (by first | (simp only[AV.putO,AV.put];rfl) | rfl) (by omega) ?_ (by simp only[List.map,AV.get,mask,putl,AV.put]))
    exact ⟨j+1,X4,by omega,qvy (by omega),rfl⟩
   ·refine AL.norm (by simp only[AV.put];rfl) rfl ?_
    (repeat' (first | ((first | with_reducible refine AL.id_ ?_ | with_reducible refine AE.id_ ?_);first | refine AL.build0 hF rfl rfl rfl (fun b=>⟨_,(by simp only[AV.put];rfl),?_⟩) | refine W.s rfl rfl (by first | exact AY.bx rfl (by simp only[evO,AV.get];rfl) rfl | exact AY.mkFn rfl (by simp only[List.map_cons,List.map_nil,evO,AV.get];rfl) | exact AY.mkFn1 rfl (by simp only[evO,AV.get];rfl) (by simp only[List.map_cons,List.map_nil,evO,AV.get];rfl) | exact AY.build rfl (by simp only[List.map_cons,List.map_nil,evO,AV.get];rfl) (by simp only[List.map_cons,List.map_nil];repeat (first | exact Places.nil | apply Places.cons)) (by first | (simp only[zip3,qbH,qcB,qbb,qq,qdX,List.map_cons,List.map_nil,List.length_cons,List.length_nil,List.take_succ_cons,List.take_zero,List.drop_succ_cons,List.drop_zero,List.replicate_succ,List.replicate_zero,List.cons_append,List.nil_append,List.append_nil,List.drop_nil,List.take_nil,List.toList_toArray,Nat.sub_zero,Nat.reduceSub,Nat.reduceAdd,Nat.reduceMul,Nat.zero_mul,Nat.one_mul,Nat.mul_one,Nat.zero_add,Nat.le_refl,Nat.reduceLeDiff,and_self,true_and,and_true,if_true];rfl) | rfl) | exact AY.buildS rfl (by simp only[List.map_cons,List.map_nil,evO,AV.get];rfl) (by first | rfl | decide) (by omega) (by first | (simp only[zip3,qbH,qcB,qbb,qq,qdX,List.map_cons,List.map_nil,List.length_cons,List.length_nil,List.take_succ_cons,List.take_zero,List.drop_succ_cons,List.drop_zero,List.replicate_succ,List.replicate_zero,List.cons_append,List.nil_append,List.append_nil,List.drop_nil,List.take_nil,List.toList_toArray,Nat.sub_zero,Nat.reduceSub,Nat.reduceAdd,Nat.reduceMul,Nat.zero_mul,Nat.one_mul,Nat.mul_one,Nat.zero_add,Nat.le_refl,Nat.reduceLeDiff,and_self,true_and,and_true,if_true];rfl) | rfl) (by first | (simp only[zip3,qbH,qcB,qbb,qq,qdX,List.map_cons,List.map_nil,List.length_cons,List.length_nil,List.take_succ_cons,List.take_zero,List.drop_succ_cons,List.drop_zero,List.replicate_succ,List.replicate_zero,List.cons_append,List.nil_append,List.append_nil,List.drop_nil,List.take_nil,List.toList_toArray,Nat.sub_zero,Nat.reduceSub,Nat.reduceAdd,Nat.reduceMul,Nat.zero_mul,Nat.one_mul,Nat.mul_one,Nat.zero_add,Nat.le_refl,Nat.reduceLeDiff,and_self,true_and,and_true,if_true];rfl) | rfl) | exact hEQ rfl rfl rfl | exact Step2.sound (by first | (((first | (apply Step2.a;constructor) | (apply Step2.b;constructor))<;>first | infer_instance | skip)<;>(first | infer_instance | (refine w64c ?_;omega) | (refine qlD ?_;omega) | (refine qjS ?_;omega) | (refine qjT ?_;omega) | (refine qlA ?_;omega) | ((repeat (first | exact .head _ | refine .tail _ ?_));done) | assumption | (simp only[List.drop_succ_cons,List.drop_zero,List.length_map,Nat.zero_add,Nat.mul_one];rfl) | rfl | omega | (simp;done))) | fail) rfl | exact AY.call rfl rfl _ rfl (by fail) | exact AY.slice1 rfl rfl rfl (by rfl) (by first | (simp;done) | fail) | exact AY.callF rfl _ _ rfl _ rfl (by fail) | exact AY.old1k 0 rfl rfl rfl (by first | assumption | rfl) | exact AY.old1k 1 rfl rfl rfl (by first | assumption | rfl) | exact AY.old1k 2 rfl rfl rfl (by first | assumption | rfl) | exact AY.oldNk 0 rfl rfl rfl (by first | omega | (simp;omega)) (by first | assumption | rfl) | exact AY.oldNk 1 rfl rfl rfl (by first | omega | (simp;omega)) (by first | assumption | rfl)) (by simp only[AV.put];rfl) ?_ | (refine AL.nilK (hK _ _ ?_);clear hK K) | (refine AE.nil (hK _ ?_);clear hK K) | refine W.k rfl rfl (by simp only[AV.put];rfl) ?_ | refine AL.unguardS rfl rfl ?_ | refine AL.al hF rfl rfl rfl (by first | (simp only[Value.cells,List.map_cons,List.map_nil];rfl) | rfl) (fun b=>⟨_,(by simp only[AV.put];rfl),?_⟩) | refine AL.st1 hF rfl rfl rfl rfl (by simp only[evO,AV.get];rfl) (by first | exact qgH | exact qgI | exact qgJ | exact qgK | exact qgL | exact qgM | exact qgN | exact qgO) (by rfl) rfl (by rfl) (by first | (simp;done) | (simp;omega) | omega) (by simp only[List.set];rfl) ?_ | refine AL.stW hF rfl rfl rfl rfl (by simp only[evO,AV.get];rfl) (by first | exact qgH | exact qgI | exact qgJ | exact qgK | exact qgL | exact qgM | exact qgN | exact qgO) (by rfl) (by rfl) (by rfl) (by first | rfl | simp) (by simp only[List.set];rfl) ?_) | (with_reducible refine Awp.id_ ?_;first | refine Awp.seq ?_ | refine Awp.regionK (by first | (simp only[AV.putO,AV.put];rfl) | rfl) (fun K hK=>?_) | refine Awp.drawE (by first | (simp only[AV.putO,AV.put];rfl) | rfl) mixed rfl (by kernel_rfl) (fun K hK=>?_) | refine Awp.block ?_ | refine Awp.skip ?_ | refine Awp.exit ?_ | refine Awp.ret ?_ | refine Awp.condT rfl ?_ | refine Awp.condF rfl ?_) | refine qil ?_ | refine qim ?_ | refine qin ?_ | refine qgb ?_ | refine qgc ?_ | refine qgd ?_ | refine qge rfl ?_ | ((first | ((first | with_reducible refine AL.id_ ?_ | with_reducible refine AE.id_ ?_);(fail_if_success refine W.on rfl ?_);refine W.p rfl rfl (by simp only[AV.put];rfl) (by simp only[AV.put];rfl) (fun hb=>?_) (fun hb=>?_)) | (with_reducible refine Awp.id_ ?_;refine Awp.cond _ rfl (fun hb=>?_) (fun hb=>?_)))<;>(try simp only[z1,z2,z3,z4,z5,z6,z7,z8,y5,y6,y7,y8,z9,x1,x2,x3,x4,x5,x6,x7,x8] at hb;try (exfalso;omega)))))
    exact qtc rfl ⟨X4,.inr (List.mem_of_getElem? (i:=2) rfl)⟩
  ·have hle:¬(lo+j≤hi):=by omega
   (repeat' (first | ((first | with_reducible refine AL.id_ ?_ | with_reducible refine AE.id_ ?_);first | refine AL.build0 hF rfl rfl rfl (fun b=>⟨_,(by simp only[AV.put];rfl),?_⟩) | refine W.s rfl rfl (by first | exact AY.bx rfl (by simp only[evO,AV.get];rfl) rfl | exact AY.mkFn rfl (by simp only[List.map_cons,List.map_nil,evO,AV.get];rfl) | exact AY.mkFn1 rfl (by simp only[evO,AV.get];rfl) (by simp only[List.map_cons,List.map_nil,evO,AV.get];rfl) | exact hEQ rfl rfl rfl | exact Step2.sound (by first | (((first | (apply Step2.a;constructor) | (apply Step2.b;constructor))<;>first | infer_instance | skip)<;>(first | infer_instance | (refine w64c ?_;omega) | (refine qlD ?_;omega) | (refine qjS ?_;omega) | (refine qjT ?_;omega) | (refine qlA ?_;omega) | ((repeat (first | exact .head _ | refine .tail _ ?_));done) | assumption | (simp only[List.drop_succ_cons,List.drop_zero,List.length_map,Nat.zero_add,Nat.mul_one];rfl) | rfl | omega | (simp;done))) | fail) rfl | exact AY.call rfl rfl _ rfl (by fail) | exact AY.slice1 rfl rfl rfl (by rfl) (by first | (simp;done) | fail) | exact AY.callF rfl _ _ rfl _ rfl (by fail) | exact AY.old1k 0 rfl rfl rfl (by first | assumption | rfl) | exact AY.old1k 1 rfl rfl rfl (by first | assumption | rfl) | exact AY.old1k 2 rfl rfl rfl (by first | assumption | rfl) | exact AY.oldNk 0 rfl rfl rfl (by first | omega | (simp;omega)) (by first | assumption | rfl) | exact AY.oldNk 1 rfl rfl rfl (by first | omega | (simp;omega)) (by first | assumption | rfl)) (by simp only[AV.put];rfl) ?_ | (refine AL.nilK (hK _ _ ?_);clear hK K) | (refine AE.nil (hK _ ?_);clear hK K) | refine W.k rfl rfl (by simp only[AV.put];rfl) ?_ | refine AL.unguardS rfl rfl ?_ | refine AL.al hF rfl rfl rfl (by first | (simp only[Value.cells,List.map_cons,List.map_nil];rfl) | rfl) (fun b=>⟨_,(by simp only[AV.put];rfl),?_⟩) | refine AL.st1 hF rfl rfl rfl rfl (by simp only[evO,AV.get];rfl) (by first | exact qgH | exact qgI | exact qgJ | exact qgK | exact qgL | exact qgM | exact qgN | exact qgO) (by rfl) rfl (by rfl) (by first | (simp;done) | (simp;omega) | omega) (by simp only[List.set];rfl) ?_ | refine AL.stW hF rfl rfl rfl rfl (by simp only[evO,AV.get];rfl) (by first | exact qgH | exact qgI | exact qgJ | exact qgK | exact qgL | exact qgM | exact qgN | exact qgO) (by rfl) (by rfl) (by rfl) (by first | rfl | simp) (by simp only[List.set];rfl) ?_) | (with_reducible refine Awp.id_ ?_;first | refine Awp.seq ?_ | refine Awp.regionK (by first | (simp only[AV.putO,AV.put];rfl) | rfl) (fun K hK=>?_) | refine Awp.drawE (by first | (simp only[AV.putO,AV.put];rfl) | rfl) mixed rfl (by kernel_rfl) (fun K hK=>?_) | refine Awp.block ?_ | refine Awp.skip ?_ | refine Awp.exit ?_ | refine Awp.ret ?_ | refine Awp.condT rfl ?_ | refine Awp.condF rfl ?_) | refine qil ?_ | refine qim ?_ | refine qin ?_ | refine qgb ?_ | refine qgc ?_ | refine qgd ?_ | refine qge rfl ?_ | ((first | ((first | with_reducible refine AL.id_ ?_ | with_reducible refine AE.id_ ?_);(fail_if_success refine W.on rfl ?_);refine W.p rfl rfl (by simp only[AV.put];rfl) (by simp only[AV.put];rfl) (fun hb=>?_) (fun hb=>?_)) | (with_reducible refine Awp.id_ ?_;refine Awp.cond _ rfl (fun hb=>?_) (fun hb=>?_)))<;>(try simp only[z1,z2,z3,z4,z5,z6,z7,z8,y5,y6,y7,y8,z9,x1,x2,x3,x4,x5,x6,x7,x8] at hb;try (exfalso;omega)))))
   (refine qug (n-1) (List.sublist_cons_self _ _) (by first | (simp only[AV.putO,AV.put];rfl) | rfl) (by omega) ?_ (by simp only[List.map,AV.get,mask,putl,AV.put]))
   exact ⟨k+1,X3,by omega,qvy (by omega),by rw[hNk,show (hi+1-lo).toNat=j by omega]⟩
 ·(repeat' (first | ((first | with_reducible refine AL.id_ ?_ | with_reducible refine AE.id_ ?_);first | refine AL.build0 hF rfl rfl rfl (fun b=>⟨_,(by simp only[AV.put];rfl),?_⟩) | refine W.s rfl rfl (by first | exact AY.bx rfl (by simp only[evO,AV.get];rfl) rfl | exact AY.mkFn rfl (by simp only[List.map_cons,List.map_nil,evO,AV.get];rfl) | exact AY.mkFn1 rfl (by simp only[evO,AV.get];rfl) (by simp only[List.map_cons,List.map_nil,evO,AV.get];rfl) | exact hEQ rfl rfl rfl | exact Step2.sound (by first | (((first | (apply Step2.a;constructor) | (apply Step2.b;constructor))<;>first | infer_instance | skip)<;>(first | infer_instance | (refine w64c ?_;omega) | (refine qlD ?_;omega) | (refine qjS ?_;omega) | (refine qjT ?_;omega) | (refine qlA ?_;omega) | ((repeat (first | exact .head _ | refine .tail _ ?_));done) | assumption | (simp only[List.drop_succ_cons,List.drop_zero,List.length_map,Nat.zero_add,Nat.mul_one];rfl) | rfl | omega | (simp;done))) | fail) rfl | exact AY.call rfl rfl _ rfl (by fail) | exact AY.slice1 rfl rfl rfl (by rfl) (by first | (simp;done) | fail) | exact AY.callF rfl _ _ rfl _ rfl (by fail) | exact AY.old1k 0 rfl rfl rfl (by first | assumption | rfl) | exact AY.old1k 1 rfl rfl rfl (by first | assumption | rfl) | exact AY.old1k 2 rfl rfl rfl (by first | assumption | rfl) | exact AY.oldNk 0 rfl rfl rfl (by first | omega | (simp;omega)) (by first | assumption | rfl) | exact AY.oldNk 1 rfl rfl rfl (by first | omega | (simp;omega)) (by first | assumption | rfl)) (by simp only[AV.put];rfl) ?_ | (refine AL.nilK (hK _ _ ?_);clear hK K) | (refine AE.nil (hK _ ?_);clear hK K) | refine W.k rfl rfl (by simp only[AV.put];rfl) ?_ | refine AL.unguardS rfl rfl ?_ | refine AL.al hF rfl rfl rfl (by first | (simp only[Value.cells,List.map_cons,List.map_nil];rfl) | rfl) (fun b=>⟨_,(by simp only[AV.put];rfl),?_⟩) | refine AL.st1 hF rfl rfl rfl rfl (by simp only[evO,AV.get];rfl) (by first | exact qgH | exact qgI | exact qgJ | exact qgK | exact qgL | exact qgM | exact qgN | exact qgO) (by rfl) rfl (by rfl) (by first | (simp;done) | (simp;omega) | omega) (by simp only[List.set];rfl) ?_ | refine AL.stW hF rfl rfl rfl rfl (by simp only[evO,AV.get];rfl) (by first | exact qgH | exact qgI | exact qgJ | exact qgK | exact qgL | exact qgM | exact qgN | exact qgO) (by rfl) (by rfl) (by rfl) (by first | rfl | simp) (by simp only[List.set];rfl) ?_) | (with_reducible refine Awp.id_ ?_;first | refine Awp.seq ?_ | refine Awp.regionK (by first | (simp only[AV.putO,AV.put];rfl) | rfl) (fun K hK=>?_) | refine Awp.drawE (by first | (simp only[AV.putO,AV.put];rfl) | rfl) mixed rfl (by kernel_rfl) (fun K hK=>?_) | refine Awp.block ?_ | refine Awp.skip ?_ | refine Awp.exit ?_ | refine Awp.ret ?_ | refine Awp.condT rfl ?_ | refine Awp.condF rfl ?_) | refine qil ?_ | refine qim ?_ | refine qin ?_ | refine qgb ?_ | refine qgc ?_ | refine qgd ?_ | refine qge rfl ?_ | ((first | ((first | with_reducible refine AL.id_ ?_ | with_reducible refine AE.id_ ?_);(fail_if_success refine W.on rfl ?_);refine W.p rfl rfl (by simp only[AV.put];rfl) (by simp only[AV.put];rfl) (fun hb=>?_) (fun hb=>?_)) | (with_reducible refine Awp.id_ ?_;refine Awp.cond _ rfl (fun hb=>?_) (fun hb=>?_)))<;>(try simp only[z1,z2,z3,z4,z5,z6,z7,z8,y5,y6,y7,y8,z9,x1,x2,x3,x4,x5,x6,x7,x8] at hb;try (exfalso;omega)))))
  exact qui rfl ⟨X',.inl (by rw[show ss.length=k by omega];exact List.mem_of_getElem? (i:=1) rfl)⟩
def qqs:Itr Tryz.prog:=⟨183,[T91],[T158],fun x=>qph x.1.2.2.2.2,fun x l h=>qu6 x l h⟩
section
def qjj(n:Nat):CL Tryz.prog:=⟨[],[],0,fun _=>false⟩
def qmm(n:Nat):Nat→St→PT (DEx×St):=fun _ _=>.fail
theorem qrw(n:Nat):qJ (qjj n).c (qo Tryz.f152) 0=[]:=by kernel_rfl
theorem qrx:Tryz.f152.body=some (qo Tryz.f152):=by kernel_rfl
abbrev qj7:List Ar:=[.d T91]
abbrev qh1:List Ty:=[T91]
def qry(n:Nat)(x:qdA qj7):Option (qA qh1):=(qdi tab (qjj n) (qmm n) (qo Tryz.f152) 0 (qgr qj7 4 x)).run (qvx 2 183 qh1)
def qnd(n:Nat):Ct Tryz.prog:=⟨152,qj7,.fb 183 qh1,qry n,fun _ _ h=>qwe (B:=tab) (cs:=qjj n) (lo:=qmm n) (i:=2) (g:=183) (caps:=qh1) Tryz.func152 (by kernel_rfl) qrx (by kernel_rfl) (qgh (qrw n) qdG) h⟩
def qld(n:Nat):CL Tryz.prog:=⟨[],[],0,nof⟩
def ql9(n:Nat):Cw Tryz.prog:=mkW tab (qld n) [] Tryz.func182 [.v (.t 1) T158,.obj (.t 0) true 129 5,.v (.c 0 0) T126,.row (.c 0 2) true T91 91,.row (.c 0 3) true T91 91,.mpi (.c 0 4) true T158 T3] 2 [[.v (.t 0) T3,.obj (.t 1) true 129 5,.v (.c 0 0) T126,.row (.c 0 2) true T91 91,.row (.c 0 3) true T91 91,.mpi (.c 0 4) true T158 T3]] (by kernel_rfl)
def qhr(n:Nat):CL Tryz.prog:=⟨[qnd n],[ql9 n],0,nof⟩
def qkM(n:Nat):LK Tryz.prog false:=mkG tab (qhr n) [] Tryz.f151 [true,false,true,false] 0 9 [10] qqs [.obj (.t 0) true 129 5,.v (.c 0 0) T126,.row (.c 0 2) true T91 91,.row (.c 0 3) true T91 91,.mpi (.c 0 4) true T158 T3,.obj (.t 2) false 121 1,.pal (.c 4 0) 0 0,.obj (.t 3) false 91 5,.v (.c 5 0) T91,.obj (.t 4) false 158 2,.v (.c 6 0) T158,.obj (.t 5) false 3 1,.v (.c 7 0) T3] [(.ret,[.obj (.t 0) true 129 5,.v (.c 0 0) T126,.row (.c 0 2) true T91 91,.row (.c 0 3) true T91 91,.mpi (.c 0 4) true T158 T3,.obj (.t 4) false 158 2,.v (.c 4 0) T158,.obj (.t 5) false 3 1,.v (.c 5 0) T3])] (by kernel_rfl)
def qle(n:Nat):Cw Tryz.prog:=mkW tab (qhr n) [qkM n] Tryz.func151 [.v (.t 1) T91,.obj (.t 0) true 129 5,.v (.c 0 0) T126,.row (.c 0 2) true T91 91,.row (.c 0 3) true T91 91,.mpi (.c 0 4) true T158 T3] 2 [[.v (.t 0) T158,.v (.t 1) T3,.obj (.t 2) true 129 5,.v (.c 0 0) T126,.row (.c 0 2) true T91 91,.row (.c 0 3) true T91 91,.mpi (.c 0 4) true T158 T3]] (by kernel_rfl)
def qgF(n:Nat):CL Tryz.prog:=⟨[qnd n],[qle n],0,nof⟩
def qmt(n:Nat):LK Tryz.prog false:=mkG tab (qgF n) [] Tryz.f120 [true,true,false,true,false,false,true,true,false,false,true,true,true,true,true,false] 1 60 [61] qqs [.nilf (.t 2),.v (.t 17) T35,.v (.t 18) T3,.v (.t 19) T3,.obj (.t 7) false 121 1,.obj (.c 0 0) false 129 5,.v (.c 1 0) T126,.row (.c 1 2) false T91 91,.row (.c 1 3) false T91 91,.mpi (.c 1 4) false T158 T3,.obj (.t 9) false 91 5,.v (.c 5 0) T91] [] (by kernel_rfl)
def qmu(n:Nat):LK Tryz.prog false:=mkL tab (qgF n) [qmt n] Tryz.f120 [true,true,false,true,false,false] 0 n [.nilf (.t 2),.v (.t 17) T35,.v (.t 18) T3,.v (.t 19) T3,.obj (.t 7) false 121 1,.obj (.c 0 0) false 129 5,.v (.c 1 0) T126,.row (.c 1 2) false T91 91,.row (.c 1 3) false T91 91,.mpi (.c 1 4) false T158 T3] [(.exit 0,[.obj (.t 7) false 121 1,.obj (.c 0 0) false 129 5,.v (.c 1 0) T126,.row (.c 1 2) false T91 91,.row (.c 1 3) false T91 91,.mpi (.c 1 4) false T158 T3])] (by kernel_rfl)
def qne(n:Nat):Cw Tryz.prog:=mkW tab (qgF n) [qmu n] Tryz.func120 [.v (.t 0) T126,.v (.t 1) T35,.nilf (.t 2)] 3 [[.obj (.t 0) false 129 5,.v (.c 0 0) T126,.row (.c 0 2) false T91 91,.row (.c 0 3) false T91 91,.mpi (.c 0 4) false T158 T3]] (by kernel_rfl)
def qqz(n:Nat):CL Tryz.prog:=⟨[],[qj5 n,qfL n,qji n,qc0 n,qc1 n],1,nof⟩
def qrz(n:Nat):Ct Tryz.prog:=mkC tab (qqz n) [] Tryz.func121 [.d T35] [T35] (by kernel_rfl)
def qpj(n:Nat):CL Tryz.prog:=⟨[qj3 n,qi3 n],[],0,nof⟩
def qlf(n:Nat):Cw Tryz.prog:=mkW tab (qpj n) [] Tryz.func117 [.v (.t 0) T158,.obj (.t 1) true 126 2,.v (.c 0 0) T126] 2 [[.v (.t 0) T4,.obj (.t 1) true 126 2,.v (.c 0 0) T126]] (by kernel_rfl)
def qdb(n:Nat):CL Tryz.prog:=⟨[],[qlf n],0,nof⟩
def qf7(n:Nat):LK Tryz.prog false:=mkL tab (qdb n) [] Tryz.f150 [true,false,true,false,false] 0 n [.v (.t 0) T155,.v (.t 7) T3,.v (.t 8) T3,.fnc (.t 1) 117 [.box true 126 2],.v (.c 0 0) T126] [(.exit 0,[.fnc (.t 1) 117 [.box true 126 2],.v (.c 0 0) T126]),(.ret,[.v (.t 4) T3,.fnc (.t 1) 117 [.box true 126 2],.v (.c 0 0) T126])] (by kernel_rfl)
def qgi(n:Nat):Cw Tryz.prog:=mkW tab (qdb n) [qf7 n] Tryz.func150 [.v (.t 0) T155,.fnc (.t 1) 117 [.box true 126 2],.v (.c 0 0) T126] 2 [[.v (.t 0) T3,.obj (.t 1) true 126 2,.v (.c 0 0) T126]] (by kernel_rfl)
def qfM(n:Nat):CL Tryz.prog:=⟨[],[qlf n,qgi n],0,nof⟩
def qfW(n:Nat):Cw Tryz.prog:=mkW tab (qfM n) [] Tryz.func116 [.v (.t 0) T155,.fnc (.t 1) 117 [.box true 126 2],.v (.c 0 0) T126] 2 [[.v (.t 0) T4,.obj (.t 1) true 126 2,.v (.c 0 0) T126]] (by kernel_rfl)
def qqA(n:Nat):CL Tryz.prog:=⟨[qj6 n,qrz n],[qfW n,qne n],4,nof⟩
def qrA(n:Nat):Cw Tryz.prog:=mkW tab (qqA n) [] Tryz.func77 [.v (.t 0) T34,.v (.t 1) T35,.v (.t 2) T155] 3 [[.v (.t 1) T24,.obj (.t 0) false 129 5,.v (.c 0 0) T126,.row (.c 0 2) false T91 91,.row (.c 0 3) false T91 91,.mpi (.c 0 4) false T158 T3],[.nilp (.t 0),.v (.t 1) T24]] (by kernel_rfl)
def qou(n:Nat):CL Tryz.prog:=⟨[],[qrA n,qrX n,qnc n],4,nof⟩
def qkB(n:Nat):Ct Tryz.prog:=mkC tab (qou n) [] Tryz.func36 [.d T34,.d T35] [T22,T24] (by kernel_rfl)
end
section
end
end
end Go.Proofs.YtlmicgmhallkkaaGreatDoor
