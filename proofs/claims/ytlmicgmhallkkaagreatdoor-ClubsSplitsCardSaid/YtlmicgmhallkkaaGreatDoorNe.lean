/- Texts DnA, DnB, DnC, DnD, DnF, DnG, DnH, DnI, DnE, DnJ in one. -/
import Derived.Test.YtlmicgmhallkkaaGreatDoorDnT
import Derived.Test.YtlmicgmhallkkaaGreatDoorNd
import Derived.Test.YtlmicgmhallkkaaGreatDoorKc
/- Printed: what functions of the program compute. -/
set_option linter.constructorNameAsVariable false
set_option linter.unusedSimpArgs false
set_option linter.unusedVariables false
set_option linter.unusedSectionVars false
namespace Go.Proofs.YtlmicgmhallkkaaGreatDoor
open Go Go.Proofs Go.RowKit
set_option maxRecDepth 20000
noncomputable section
section
end
section
def qoL(n:Nat):CL Tryz.prog:=⟨[],[],0,nof⟩
def qh8(n:Nat):Ct Tryz.prog:=mkC tab (qoL n) [] Tryz.func133 [.d T3] [T4] (by kernel_rfl)
def qpx(n:Nat):CL Tryz.prog:=⟨[qh8 n],[],0,nof⟩
def qlx(n:Nat):Ct Tryz.prog:=mkC tab (qpx n) [] Tryz.func166 [.d T3,.d T3] [T4] (by kernel_rfl)
def qno(n:Nat):CL Tryz.prog:=⟨[qh8 n],[],0,nof⟩
def qdn(n:Nat):Ct Tryz.prog:=mkC tab (qno n) [] Tryz.func100 [.d T3,.d T3] [T3] (by kernel_rfl)
def qnp(n:Nat):CL Tryz.prog:=⟨[],[],0,nof⟩
def qrP(n:Nat):LK Tryz.prog false:=mkL tab (qnp n) [] Tryz.f78 [true,true,false,true,false,false] 0 n [.v (.t 6) T35,.v (.t 7) T3,.v (.t 8) T3,.row (.t 3) false T3 3] [(.exit 0,[.row (.t 3) false T3 3])] (by kernel_rfl)
def qsh(n:Nat):Cw Tryz.prog:=mkW tab (qnp n) [qrP n] Tryz.func78 [.v (.t 0) T35] 1 [[.row (.t 0) false T3 3]] (by kernel_rfl)
def qcB(n:Nat):CL Tryz.prog:=⟨[qlx n],[],0,nof⟩
def qhm(n:Nat):LK Tryz.prog false:=mkL tab (qcB n) [] Tryz.f160 [true,false,false,true,false,false,true,false,false] 1 n [.v (.t 1) T3,.v (.t 2) T3,.v (.t 6) T3,.v (.t 7) T3,.row (.t 0) true T3 3] [(.exit 2,[.v (.t 1) T3,.v (.t 2) T3,.v (.t 6) T3,.row (.t 0) true T3 3])] (by kernel_rfl)
def qhn(n:Nat):LK Tryz.prog false:=mkL tab (qcB n) [qhm n] Tryz.f160 [true,false,false] 0 n [.v (.t 1) T3,.v (.t 2) T3,.v (.t 6) T3,.row (.t 0) true T3 3] [(.exit 0,[.row (.t 0) true T3 3])] (by kernel_rfl)
def qhv(n:Nat):Cw Tryz.prog:=mkW tab (qcB n) [qhn n] Tryz.func160 [.v (.t 1) T3,.v (.t 2) T3,.row (.t 0) true T3 3] 3 [[.row (.t 0) true T3 3]] (by kernel_rfl)
def qnq(n:Nat):CL Tryz.prog:=⟨[],[],0,nof⟩
def qn4(n:Nat):Ct Tryz.prog:=mkC tab (qnq n) [] Tryz.func170 [.d T167] [T3] (by kernel_rfl)
def qoM(n:Nat):CL Tryz.prog:=⟨[qn4 n],[],0,nof⟩
def qh9(n:Nat):Ct Tryz.prog:=mkC tab (qoM n) [] Tryz.func123 [.d T70] [T3] (by kernel_rfl)
def qpy(n:Nat):CL Tryz.prog:=⟨[],[],0,nof⟩
def qeI(n:Nat):Ct Tryz.prog:=mkC tab (qpy n) [] Tryz.func134 [.d T3,.d T3,.d T3] [T4] (by kernel_rfl)
def qn5(n:Nat):CL Tryz.prog:=⟨[qeI n],[],0,nof⟩
def qkn(n:Nat):Ct Tryz.prog:=mkC tab (qn5 n) [] Tryz.func118 [.d T126,.d T3] [T4] (by kernel_rfl)
def qmK(n:Nat):CL Tryz.prog:=⟨[qeI n],[],0,nof⟩
def qjm(n:Nat):Ct Tryz.prog:=mkC tab (qmK n) [] Tryz.func119 [.d T126,.d T3] [T4] (by kernel_rfl)
def qix(n:Nat):CL Tryz.prog:=⟨[qkn n,qjm n,qeI n],[],0,nof⟩
def qmL(n:Nat):LK Tryz.prog false:=mkL tab (qix n) [] Tryz.f177 [true,true,false,true,false,false] 0 n [.v (.t 5) T3,.v (.t 8) T89,.v (.t 9) T3,.v (.t 10) T3,.obj (.t 2) false 126 2,.v (.c 0 0) T126] [(.exit 0,[]),(.ret,[.v (.t 4) T4])] (by kernel_rfl)
def qnr(n:Nat):Ct Tryz.prog:=mkC tab (qix n) [qmL n] Tryz.func177 [.d T126,.d T89] [T4] (by kernel_rfl)
def qly(n:Nat):CL Tryz.prog:=⟨[qeI n,qnr n],[],0,nof⟩
def qms(n:Nat):Ct Tryz.prog:=mkC tab (qly n) [] Tryz.func139 [.d T126,.d T91] [T4] (by kernel_rfl)
def qmE(n:Nat):CL Tryz.prog:=⟨[],[],0,nof⟩
def qqS(n:Nat):LK Tryz.prog false:=mkL tab (qmE n) [] Tryz.f159 [true,true,false,true,false,false] 0 n [.v (.t 3) T3,.v (.t 6) T22,.v (.t 7) T3,.v (.t 8) T3] [(.exit 0,[.v (.t 3) T3]),(.ret,[.v (.t 2) T3])] (by kernel_rfl)
def qko(n:Nat):Ct Tryz.prog:=mkC tab (qmE n) [qqS n] Tryz.func159 [.d T22] [T3] (by kernel_rfl)
def qmF(n:Nat):CL Tryz.prog:=⟨[],[],0,nof⟩
def qqT(n:Nat):LK Tryz.prog false:=mkL tab (qmF n) [] Tryz.f140 [true,false,true,false,false] 0 n [.v (.t 0) T35,.v (.t 5) T35,.v (.t 6) T3,.v (.t 7) T3] [(.exit 0,[]),(.ret,[.v (.t 2) T4])] (by kernel_rfl)
def qrQ(n:Nat):Ct Tryz.prog:=mkC tab (qmF n) [qqT n] Tryz.func140 [.d T35] [T4] (by kernel_rfl)
def qkx(n:Nat):CL Tryz.prog:=⟨[],[],0,nof⟩
def qk5(n:Nat):Ct Tryz.prog:=mkC tab (qkx n) [] Tryz.func80 [] [T34,T35] (by kernel_rfl)
end
section
def qpz(n:Nat):CL Tryz.prog:=⟨[qdn n,qko n],[],0,nof⟩
def qiP(n:Nat):Ct Tryz.prog:=mkC tab (qpz n) [] Tryz.func158 [.d T91,.d T91] [T3] (by kernel_rfl)
def qns(n:Nat):CL Tryz.prog:=⟨[],[],0,nof⟩
def qjM(n:Nat):Cw Tryz.prog:=mkW tab (qns n) [] Tryz.func156 [.v (.t 0) T91,.obj (.t 1) true 91 5,.v (.c 0 0) T91] 2 [[.v (.t 0) T4,.obj (.t 1) true 91 5,.v (.c 0 0) T91]] (by kernel_rfl)
def qcE(n:Nat):CL Tryz.prog:=⟨[],[qjM n],0,nof⟩
def qff(n:Nat):LK Tryz.prog false:=mkL tab (qcE n) [] Tryz.f58 [true,false,true,false,false] 0 n [.v (.t 0) T35,.v (.t 7) T3,.v (.t 8) T3,.fnc (.t 1) 156 [.box true 91 5],.v (.c 0 0) T91] [(.exit 0,[.fnc (.t 1) 156 [.box true 91 5],.v (.c 0 0) T91]),(.ret,[.v (.t 4) T3,.fnc (.t 1) 156 [.box true 91 5],.v (.c 0 0) T91])] (by kernel_rfl)
def q9(n:Nat):Cw Tryz.prog:=mkW tab (qcE n) [qff n] Tryz.func58 [.v (.t 0) T35,.fnc (.t 1) 156 [.box true 91 5],.v (.c 0 0) T91] 2 [[.v (.t 0) T3,.obj (.t 1) true 91 5,.v (.c 0 0) T91]] (by kernel_rfl)
def qeJ(n:Nat):CL Tryz.prog:=⟨[],[q9 n,qjM n],0,nof⟩
def qct(n:Nat):Cw Tryz.prog:=mkW tab (qeJ n) [] Tryz.func137 [.v (.t 0) T35,.fnc (.t 1) 156 [.box true 91 5],.v (.c 0 0) T91] 2 [[.v (.t 0) T4,.obj (.t 1) true 91 5,.v (.c 0 0) T91]] (by kernel_rfl)
def qoN(n:Nat):CL Tryz.prog:=⟨[],[qct n],0,nof⟩
def qkW(n:Nat):Cw Tryz.prog:=mkW tab (qoN n) [] Tryz.func155 [.v (.t 0) T91,.obj (.t 1) true 35 1,.v (.c 0 0) T35] 2 [[.v (.t 0) T4,.obj (.t 1) true 35 1,.v (.c 0 0) T35]] (by kernel_rfl)
def qba(n:Nat):CL Tryz.prog:=⟨[qiP n],[],0,nof⟩
def qdP(n:Nat):LK Tryz.prog false:=mkL tab (qba n) [] Tryz.f195 [true,false,false,true,false,false,true,false,false] 1 n [.v (.t 1) T3,.v (.t 2) T3,.fn (.t 3) 158 [] [],.v (.t 8) T3,.v (.t 9) T3,.row (.t 0) true T91 91] [(.exit 2,[.v (.t 1) T3,.v (.t 2) T3,.fn (.t 3) 158 [] [],.v (.t 8) T3,.row (.t 0) true T91 91])] (by kernel_rfl)
def qdQ(n:Nat):LK Tryz.prog false:=mkL tab (qba n) [qdP n] Tryz.f195 [true,false,false] 0 n [.v (.t 1) T3,.v (.t 2) T3,.fn (.t 3) 158 [] [],.v (.t 8) T3,.row (.t 0) true T91 91] [(.exit 0,[.row (.t 0) true T91 91])] (by kernel_rfl)
def qbU(n:Nat):Cw Tryz.prog:=mkW tab (qba n) [qdQ n] Tryz.func195 [.v (.t 1) T3,.v (.t 2) T3,.fn (.t 3) 158 [] [],.row (.t 0) true T91 91] 4 [[.row (.t 0) true T91 91]] (by kernel_rfl)
def qn6(n:Nat):CL Tryz.prog:=⟨[qdn n,qko n],[],0,nof⟩
def qoO(n:Nat):Ct Tryz.prog:=mkC tab (qn6 n) [] Tryz.func194 [.d T95,.d T95] [T3] (by kernel_rfl)
def qcO(n:Nat):CL Tryz.prog:=⟨[qoO n],[],0,nof⟩
def qfN(n:Nat):LK Tryz.prog false:=mkL tab (qcO n) [] Tryz.f193 [true,false,true,false,false] 0 n [.v (.t 0) T89,.v (.t 1) T89,.fn (.t 2) 194 [] [],.v (.t 11) T89,.v (.t 12) T3,.v (.t 13) T3] [(.exit 0,[.v (.t 0) T89,.v (.t 1) T89]),(.ret,[.v (.t 6) T3])] (by kernel_rfl)
def qfX(n:Nat):Ct Tryz.prog:=mkC tab (qcO n) [qfN n] Tryz.func193 [.d T89,.d T89,.fn 194 [] []] [T3] (by kernel_rfl)
def qpA(n:Nat):CL Tryz.prog:=⟨[qdn n,qko n,qfX n],[],0,nof⟩
def qho(n:Nat):Ct Tryz.prog:=mkC tab (qpA n) [] Tryz.func179 [.d T91,.d T91] [T3] (by kernel_rfl)
def qbb(n:Nat):CL Tryz.prog:=⟨[qho n],[],0,nof⟩
def qdR(n:Nat):LK Tryz.prog false:=mkL tab (qbb n) [] Tryz.f195 [true,false,false,true,false,false,true,false,false] 1 n [.v (.t 1) T3,.v (.t 2) T3,.fn (.t 3) 179 [] [],.v (.t 8) T3,.v (.t 9) T3,.row (.t 0) true T91 91] [(.exit 2,[.v (.t 1) T3,.v (.t 2) T3,.fn (.t 3) 179 [] [],.v (.t 8) T3,.row (.t 0) true T91 91])] (by kernel_rfl)
def qdS(n:Nat):LK Tryz.prog false:=mkL tab (qbb n) [qdR n] Tryz.f195 [true,false,false] 0 n [.v (.t 1) T3,.v (.t 2) T3,.fn (.t 3) 179 [] [],.v (.t 8) T3,.row (.t 0) true T91 91] [(.exit 0,[.row (.t 0) true T91 91])] (by kernel_rfl)
def qbV(n:Nat):Cw Tryz.prog:=mkW tab (qbb n) [qdS n] Tryz.func195 [.v (.t 1) T3,.v (.t 2) T3,.fn (.t 3) 179 [] [],.row (.t 0) true T91 91] 4 [[.row (.t 0) true T91 91]] (by kernel_rfl)
def qnt(n:Nat):CL Tryz.prog:=⟨[qeI n],[],0,nof⟩
def qjN(n:Nat):Ct Tryz.prog:=mkC tab (qnt n) [] Tryz.func136 [.d T163] [T4] (by kernel_rfl)
def qcY(n:Nat):CL Tryz.prog:=⟨[qjN n],[],0,nof⟩
def qf8(n:Nat):LK Tryz.prog false:=mkL tab (qcY n) [] Tryz.f176 [true,false,true,false,false] 0 n [.v (.t 0) T32,.fn (.t 1) 136 [] [],.v (.t 7) T3,.v (.t 8) T3] [(.exit 0,[]),(.ret,[.v (.t 4) T3])] (by kernel_rfl)
def qgd(n:Nat):Ct Tryz.prog:=mkC tab (qcY n) [qf8 n] Tryz.func176 [.d T32,.fn 136 [] []] [T3] (by kernel_rfl)
def qfA(n:Nat):CL Tryz.prog:=⟨[qjN n,qgd n],[],0,nof⟩
def qfO(n:Nat):Ct Tryz.prog:=mkC tab (qfA n) [] Tryz.func135 [.d T32,.fn 136 [] []] [T4] (by kernel_rfl)
def qoP(n:Nat):CL Tryz.prog:=⟨[qeI n,qfO n],[],0,nof⟩
def qpB(n:Nat):Ct Tryz.prog:=mkC tab (qoP n) [] Tryz.func101 [.d T126] [T4] (by kernel_rfl)
def qnu(n:Nat):CL Tryz.prog:=⟨[qho n],[],0,nof⟩
def qn7(n:Nat):Ct Tryz.prog:=mkC tab (qnu n) [] Tryz.func181 [.d T91,.d T91] [T4] (by kernel_rfl)
end
section
def qdj(n:Nat):CL Tryz.prog:=⟨[],[],0,fun _=>false⟩
def qfB(n:Nat):Nat→St→PT (DEx×St):=fun _ _=>.fail
theorem qio(n:Nat):qJ (qdj n).c (qo Tryz.f192) 0=[]:=by kernel_rfl
theorem qip:Tryz.f192.body=some (qo Tryz.f192):=by kernel_rfl
abbrev qdk:List It:=[.raw (.t 0),.v (.t 1) T3]
abbrev qc8:List (List It):=[[.row (.t 0) false T91 91]]
def qiq(n:Nat)(x:qc qdk):Option (qV qc8):=runW tab (qdj n) (qfB n) (qo Tryz.f192) qdk 2 27 [.tmp 4] qc8 x
def qir(n:Nat):Cw Tryz.prog:=⟨192,2,qdk,1,qc8,qiq n,fun _ _ h=>qhz (B:=tab) (cs:=qdj n) (lo:=qfB n) (rs:=[.tmp 4]) Tryz.func192 (by kernel_rfl) qip (by kernel_rfl) (by decide) (qgo (qio n) qdH) h⟩
def qdI(n:Nat):CL Tryz.prog:=⟨[],[qir n],1,nof⟩
def qiQ(n:Nat):LK Tryz.prog false:=mkL tab (qdI n) [] Tryz.f178 [true,true,false,true,false,false] 0 n [.v (.t 0) T211,.v (.t 3) T3,.v (.t 9) T211,.v (.t 10) T3,.v (.t 11) T3] [(.exit 0,[.v (.t 0) T211,.v (.t 3) T3])] (by kernel_rfl)
def qiR(n:Nat):LK Tryz.prog false:=mkL tab (qdI n) [] Tryz.f178 [true,true,true,true,false,true,false,false] 1 n [.v (.t 25) T211,.v (.t 26) T3,.v (.t 27) T3,.row (.t 6) false T91 91] [(.exit 2,[.row (.t 6) false T91 91])] (by kernel_rfl)
def qjn(n:Nat):Cw Tryz.prog:=mkW tab (qdI n) [qiQ n,qiR n] Tryz.func178 [.v (.t 0) T211] 1 [[.row (.t 0) false T91 91]] (by kernel_rfl)
abbrev qj:List It:=[.v (.t 1) T3,.v (.t 2) T3,.v (.t 3) T3,.fn (.t 4) 179 [] [],.row (.t 0) true T91 91]
abbrev qh:List (List It):=[[.row (.t 0) true T91 91]]
abbrev qd:Type:={g:qc qj→Option (qV qh) // qkT Tryz.prog 184 5 qj 0 qh g}
def qu(n:Nat)(g:qd):CL Tryz.prog:=⟨[qho n],[qbU n,qbV n,⟨184,5,qj,0,qh,g.1,g.2⟩],0,fun _=>false⟩
def qce(n:Nat)(g:qd):Nat→St→PT (DEx×St):=fun _ _=>.fail
abbrev qC:List It:=[.v (.t 1) T3,.v (.t 2) T3,.v (.t 3) T3,.fn (.t 4) 179 [] [],.v (.t 10) T4,.v (.t 11) T4,.row (.t 0) true T91 91]
abbrev qM:List (DEx×List It):=[(.ret,[.row (.t 0) true T91 91])]
def qeK(n:Nat)(g:qd)(rec:qc qC→Option (qW qM))(s:qc qC):Option (qW qM):=(qdi tab (qu n g) (qce n g) (subC [true,true,false,false] (qo Tryz.f184)) 1 (mkS qC 148 s)).run (Lp.leaf 148 qC qM rec)
def qbo(n:Nat)(g:qd):Lp:=⟨148,qC,qM,qr n (qeK n g)⟩
theorem qeL(n:Nat)(g:qd):qJ (qu n g).c (subC [true,true,false,false] (qo Tryz.f184)) 1=[]:=by kernel_rfl
theorem qel(n:Nat)(g:qd)(st:St)(r:DEx×St)(h:((qbo n g).go st).Is r):DA Tryz.prog false (.loop (subC [true,true,false,false] (qo Tryz.f184))) st r:=Lp.ok (L:=qbo n g) (B:=tab) (cs:=qu n g) (lo:=qce n g) (id:=0) rfl (qgo (qeL n g) qdH) (fun _ _=>rfl) h
def qck(n:Nat)(g:qd):Nat→St→PT (DEx×St):=fun k st=>match k with
 | 0=>(qbo n g).go st
 | _=>.fail
theorem qeU(n:Nat)(g:qd):qJ (qu n g).c (qo Tryz.f184) 0=[(0,.loop (subC [true,true,false,false] (qo Tryz.f184)))]:=by kernel_rfl
theorem qeV:Tryz.f184.body=some (qo Tryz.f184):=by kernel_rfl
def qcl(n:Nat)(g:qd)(x:qc qj):Option (qV qh):=runW tab (qu n g) (qck n g) (qo Tryz.f184) qj 5 148 [] qh x
theorem qeM(n:Nat)(g:qd):qkT Tryz.prog 184 5 qj 0 qh (qcl n g):=fun _ _ h=>qhz (B:=tab) (cs:=qu n g) (lo:=qck n g) (rs:=[]) Tryz.func184 (by kernel_rfl) qeV (by kernel_rfl) (by decide) (qgo (qeU n g) (all_cons (fun st r h=>qel n g st r h) qdH)) h
def qO(n:Nat):Nat→qd
 | 0=>⟨fun _=>none,fun _ _ h=>by cases h⟩
 | k+1=>⟨qcl n (qO n k),qeM n (qO n k)⟩
def qeW(n:Nat)(x:qc qj):Option (qV qh):=(qO n n).1 x
def qcu(n:Nat):Cw Tryz.prog:=⟨184,5,qj,0,qh,qeW n,(qO n n).2⟩
def qfY(n:Nat):CL Tryz.prog:=⟨[qh9 n,qho n],[qcu n],0,nof⟩
def qcZ(n:Nat):Cw Tryz.prog:=mkW tab (qfY n) [] Tryz.func157 [.fn (.t 1) 179 [] [],.row (.t 0) true T91 91] 2 [[.row (.t 0) true T91 91]] (by kernel_rfl)
abbrev qk:List It:=[.v (.t 1) T3,.v (.t 2) T3,.v (.t 3) T3,.fn (.t 4) 158 [] [],.row (.t 0) true T91 91]
abbrev qi:List (List It):=[[.row (.t 0) true T91 91]]
abbrev qe:Type:={g:qc qk→Option (qV qi) // qkT Tryz.prog 184 5 qk 0 qi g}
def qv(n:Nat)(g:qe):CL Tryz.prog:=⟨[qiP n],[qbU n,qbV n,⟨184,5,qk,0,qi,g.1,g.2⟩],0,fun _=>false⟩
def qcf(n:Nat)(g:qe):Nat→St→PT (DEx×St):=fun _ _=>.fail
abbrev qD:List It:=[.v (.t 1) T3,.v (.t 2) T3,.v (.t 3) T3,.fn (.t 4) 158 [] [],.v (.t 10) T4,.v (.t 11) T4,.row (.t 0) true T91 91]
abbrev qN:List (DEx×List It):=[(.ret,[.row (.t 0) true T91 91])]
def qeN(n:Nat)(g:qe)(rec:qc qD→Option (qW qN))(s:qc qD):Option (qW qN):=(qdi tab (qv n g) (qcf n g) (subC [true,true,false,false] (qo Tryz.f184)) 1 (mkS qD 148 s)).run (Lp.leaf 148 qD qN rec)
def qbp(n:Nat)(g:qe):Lp:=⟨148,qD,qN,qr n (qeN n g)⟩
theorem qeO(n:Nat)(g:qe):qJ (qv n g).c (subC [true,true,false,false] (qo Tryz.f184)) 1=[]:=by kernel_rfl
theorem qem(n:Nat)(g:qe)(st:St)(r:DEx×St)(h:((qbp n g).go st).Is r):DA Tryz.prog false (.loop (subC [true,true,false,false] (qo Tryz.f184))) st r:=Lp.ok (L:=qbp n g) (B:=tab) (cs:=qv n g) (lo:=qcf n g) (id:=0) rfl (qgo (qeO n g) qdH) (fun _ _=>rfl) h
def qcm(n:Nat)(g:qe):Nat→St→PT (DEx×St):=fun k st=>match k with
 | 0=>(qbp n g).go st
 | _=>.fail
theorem qeX(n:Nat)(g:qe):qJ (qv n g).c (qo Tryz.f184) 0=[(0,.loop (subC [true,true,false,false] (qo Tryz.f184)))]:=by kernel_rfl
theorem qeY:Tryz.f184.body=some (qo Tryz.f184):=by kernel_rfl
def qcn(n:Nat)(g:qe)(x:qc qk):Option (qV qi):=runW tab (qv n g) (qcm n g) (qo Tryz.f184) qk 5 148 [] qi x
theorem qeP(n:Nat)(g:qe):qkT Tryz.prog 184 5 qk 0 qi (qcn n g):=fun _ _ h=>qhz (B:=tab) (cs:=qv n g) (lo:=qcm n g) (rs:=[]) Tryz.func184 (by kernel_rfl) qeY (by kernel_rfl) (by decide) (qgo (qeX n g) (all_cons (fun st r h=>qem n g st r h) qdH)) h
def qP(n:Nat):Nat→qe
 | 0=>⟨fun _=>none,fun _ _ h=>by cases h⟩
 | k+1=>⟨qcn n (qP n k),qeP n (qP n k)⟩
def qeZ(n:Nat)(x:qc qk):Option (qV qi):=(qP n n).1 x
def qe0(n:Nat):Cw Tryz.prog:=⟨184,5,qk,0,qi,qeZ n,(qP n n).2⟩
def qfZ(n:Nat):CL Tryz.prog:=⟨[qh9 n,qiP n],[qcu n,qe0 n],0,nof⟩
def qc0(n:Nat):Cw Tryz.prog:=mkW tab (qfZ n) [] Tryz.func157 [.fn (.t 1) 158 [] [],.row (.t 0) true T91 91] 2 [[.row (.t 0) true T91 91]] (by kernel_rfl)
def qbq(n:Nat):CL Tryz.prog:=⟨[qn7 n],[],0,nof⟩
def qeQ(n:Nat):LK Tryz.prog false:=mkL tab (qbq n) [] Tryz.f180 [true,true,false,true,false,false,true,false,false,true,false,true,false,true,false,false] 1 n [.fn (.t 1) 181 [] [],.v (.t 5) T3,.v (.t 7) T3,.row (.t 0) true T91 91,.sub (.t 6) 0] [(.exit 2,[.v (.t 5) T3,.row (.t 0) true T91 91])] (by kernel_rfl)
def qeR(n:Nat):LK Tryz.prog false:=mkL tab (qbq n) [qeQ n] Tryz.f180 [true,true,false,true,false,false] 0 n [.fn (.t 1) 181 [] [],.v (.t 5) T3,.row (.t 0) true T91 91] [(.exit 0,[.row (.t 0) true T91 91]),(.ret,[.row (.t 0) true T91 91,.sub (.t 4) 0])] (by kernel_rfl)
def qe1(n:Nat):Cw Tryz.prog:=mkW tab (qbq n) [qeR n] Tryz.func180 [.fn (.t 1) 181 [] [],.row (.t 0) true T91 91] 2 [[.row (.t 1) true T91 91,.sub (.t 0) 0]] (by kernel_rfl)
def qcv(n:Nat):CL Tryz.prog:=⟨[],[qkW n],0,nof⟩
def qe2(n:Nat):LK Tryz.prog false:=mkL tab (qcv n) [] Tryz.f58 [true,false,true,false,false] 0 n [.v (.t 7) T3,.v (.t 8) T3,.row (.t 0) true T91 91,.fnc (.t 1) 155 [.box true 35 1],.v (.c 1 0) T35] [(.exit 0,[.row (.t 0) true T91 91,.fnc (.t 1) 155 [.box true 35 1],.v (.c 1 0) T35]),(.ret,[.v (.t 4) T3,.row (.t 0) true T91 91,.fnc (.t 1) 155 [.box true 35 1],.v (.c 1 0) T35])] (by kernel_rfl)
def qbw(n:Nat):Cw Tryz.prog:=mkW tab (qcv n) [qe2 n] Tryz.func58 [.row (.t 0) true T91 91,.fnc (.t 1) 155 [.box true 35 1],.v (.c 1 0) T35] 2 [[.v (.t 0) T3,.row (.t 1) true T91 91,.obj (.t 2) true 35 1,.v (.c 1 0) T35]] (by kernel_rfl)
def qcL(n:Nat):CL Tryz.prog:=⟨[],[qbw n,q9 n,qkW n],0,nof⟩
def qfC(n:Nat):LK Tryz.prog false:=mkL tab (qcL n) [] Tryz.f153 [true,true,true,false,true,false,false] 0 n [.v (.t 5) T3,.v (.t 6) T3,.row (.t 0) true T91 91,.fnc (.t 1) 155 [.box true 35 1],.v (.c 1 0) T35] [(.exit 0,[.v (.t 5) T3,.row (.t 0) true T91 91,.fnc (.t 1) 155 [.box true 35 1],.v (.c 1 0) T35])] (by kernel_rfl)
def qfP(n:Nat):Cw Tryz.prog:=mkW tab (qcL n) [qfC n] Tryz.func153 [.row (.t 0) true T91 91,.fnc (.t 1) 155 [.box true 35 1],.v (.c 1 0) T35] 2 [[.row (.t 1) true T91 91,.obj (.t 2) true 35 1,.v (.c 1 0) T35,.sub (.t 0) 0]] (by kernel_rfl)
abbrev qG:List It:=[.v (.t 1) T3,.v (.t 2) T3,.v (.t 3) T3,.row (.t 0) true T3 3]
abbrev qF:List (List It):=[[.row (.t 0) true T3 3]]
abbrev qx:Type:={g:qc qG→Option (qV qF) // qkT Tryz.prog 122 4 qG 0 qF g}
def qbl(n:Nat)(g:qx):CL Tryz.prog:=⟨[qlx n],[qhv n,⟨122,4,qG,0,qF,g.1,g.2⟩],0,fun _=>false⟩
def qfD(n:Nat)(g:qx):Nat→St→PT (DEx×St):=fun _ _=>.fail
abbrev qbC:List It:=[.v (.t 1) T3,.v (.t 2) T3,.v (.t 3) T3,.v (.t 8) T4,.v (.t 9) T4,.row (.t 0) true T3 3]
abbrev qcq:List (DEx×List It):=[(.ret,[.row (.t 0) true T3 3])]
def qis(n:Nat)(g:qx)(rec:qc qbC→Option (qW qcq))(s:qc qbC):Option (qW qcq):=(qdi tab (qbl n g) (qfD n g) (subC [true,true,false,false] (qo Tryz.f122)) 1 (mkS qbC 134 s)).run (Lp.leaf 134 qbC qcq rec)
def qdv(n:Nat)(g:qx):Lp:=⟨134,qbC,qcq,qr n (qis n g)⟩
theorem qit(n:Nat)(g:qx):qJ (qbl n g).c (subC [true,true,false,false] (qo Tryz.f122)) 1=[]:=by kernel_rfl
theorem qhJ(n:Nat)(g:qx)(st:St)(r:DEx×St)(h:((qdv n g).go st).Is r):DA Tryz.prog false (.loop (subC [true,true,false,false] (qo Tryz.f122))) st r:=Lp.ok (L:=qdv n g) (B:=tab) (cs:=qbl n g) (lo:=qfD n g) (id:=0) rfl (qgo (qit n g) qdH) (fun _ _=>rfl) h
def qfU(n:Nat)(g:qx):Nat→St→PT (DEx×St):=fun k st=>match k with
 | 0=>(qdv n g).go st
 | _=>.fail
theorem qiS(n:Nat)(g:qx):qJ (qbl n g).c (qo Tryz.f122) 0=[(0,.loop (subC [true,true,false,false] (qo Tryz.f122)))]:=by kernel_rfl
theorem qiT:Tryz.f122.body=some (qo Tryz.f122):=by kernel_rfl
def qfV(n:Nat)(g:qx)(x:qc qG):Option (qV qF):=runW tab (qbl n g) (qfU n g) (qo Tryz.f122) qG 4 134 [] qF x
theorem qiu(n:Nat)(g:qx):qkT Tryz.prog 122 4 qG 0 qF (qfV n g):=fun _ _ h=>qhz (B:=tab) (cs:=qbl n g) (lo:=qfU n g) (rs:=[]) Tryz.func122 (by kernel_rfl) qiT (by kernel_rfl) (by decide) (qgo (qiS n g) (all_cons (fun st r h=>qhJ n g st r h) qdH)) h
def qcC(n:Nat):Nat→qx
 | 0=>⟨fun _=>none,fun _ _ h=>by cases h⟩
 | k+1=>⟨qfV n (qcC n k),qiu n (qcC n k)⟩
def qiU(n:Nat)(x:qc qG):Option (qV qF):=(qcC n n).1 x
def qiV(n:Nat):Cw Tryz.prog:=⟨122,4,qG,0,qF,qiU n,(qcC n n).2⟩
def qmM(n:Nat):CL Tryz.prog:=⟨[qh9 n],[qiV n],0,nof⟩
def qnv(n:Nat):Cw Tryz.prog:=mkW tab (qmM n) [] Tryz.func79 [.row (.t 0) true T3 3] 1 [[.row (.t 0) true T3 3]] (by kernel_rfl)
def qn8(n:Nat):CL Tryz.prog:=⟨[],[qcZ n,qc0 n,qjn n,qe1 n],1,nof⟩
def qkp(n:Nat):Cw Tryz.prog:=mkW tab (qn8 n) [] Tryz.func141 [.v (.t 0) T211] 1 [[.row (.t 0) false T91 91]] (by kernel_rfl)
def qj2(n:Nat):CL Tryz.prog:=⟨[qms n],[],0,nof⟩
def qhc(n:Nat):Cw Tryz.prog:=mkW tab (qj2 n) [] Tryz.func138 [.v (.t 0) T91,.obj (.t 1) true 126 2,.v (.c 0 0) T126] 2 [[.v (.t 0) T4,.obj (.t 1) true 126 2,.v (.c 0 0) T126]] (by kernel_rfl)
def qb1(n:Nat):CL Tryz.prog:=⟨[],[qhc n],0,nof⟩
def qd9(n:Nat):LK Tryz.prog false:=mkL tab (qb1 n) [] Tryz.f58 [true,false,true,false,false] 0 n [.v (.t 0) T35,.v (.t 7) T3,.v (.t 8) T3,.fnc (.t 1) 138 [.box true 126 2],.v (.c 0 0) T126] [(.exit 0,[.fnc (.t 1) 138 [.box true 126 2],.v (.c 0 0) T126]),(.ret,[.v (.t 4) T3,.fnc (.t 1) 138 [.box true 126 2],.v (.c 0 0) T126])] (by kernel_rfl)
def qb5(n:Nat):Cw Tryz.prog:=mkW tab (qb1 n) [qd9 n] Tryz.func58 [.v (.t 0) T35,.fnc (.t 1) 138 [.box true 126 2],.v (.c 0 0) T126] 2 [[.v (.t 0) T3,.obj (.t 1) true 126 2,.v (.c 0 0) T126]] (by kernel_rfl)
def qdJ(n:Nat):CL Tryz.prog:=⟨[],[qbw n,q9 n,qb5 n,qhc n],0,nof⟩
def qdT(n:Nat):Cw Tryz.prog:=mkW tab (qdJ n) [] Tryz.func137 [.v (.t 0) T35,.fnc (.t 1) 138 [.box true 126 2],.v (.c 0 0) T126] 2 [[.v (.t 0) T4,.obj (.t 1) true 126 2,.v (.c 0 0) T126]] (by kernel_rfl)
def qk6(n:Nat):CL Tryz.prog:=⟨[qrQ n],[qct n,qdT n,qkp n],1,nof⟩
def qlz(n:Nat):Ct Tryz.prog:=mkC tab (qk6 n) [] Tryz.func102 [.d T126,.d T35] [T24] (by kernel_rfl)
def qqU(n:Nat):CL Tryz.prog:=⟨[qpB n,qlz n],[],0,nof⟩
def qkq(n:Nat):Ct Tryz.prog:=mkC tab (qqU n) [] Tryz.func61 [.d T34,.d T35] [T24] (by kernel_rfl)
end
section
def qc9(n:Nat):CL Tryz.prog:=⟨[],[],0,fun _=>false⟩
def qfe(n:Nat):Nat→St→PT (DEx×St):=fun _ _=>.fail
theorem qia(n:Nat):qJ (qc9 n).c (qo Tryz.f154) 0=[]:=by kernel_rfl
theorem qib:Tryz.f154.body=some (qo Tryz.f154):=by kernel_rfl
abbrev qda:List It:=[.raw (.t 0)]
abbrev qcW:List (List It):=[[.row (.t 0) false T91 91]]
def qcg(n:Nat)(x:qc qda):Option (qV qcW):=runW tab (qc9 n) (qfe n) (qo Tryz.f154) qda 1 8 [.tmp 2] qcW x
def qic(n:Nat):Cw Tryz.prog:=⟨154,1,qda,1,qcW,qcg n,fun _ _ h=>qhz (B:=tab) (cs:=qc9 n) (lo:=qfe n) (rs:=[.tmp 2]) Tryz.func154 (by kernel_rfl) qib (by kernel_rfl) (by decide) (qgo (qia n) qdH) h⟩
def qd4(n:Nat):CL Tryz.prog:=⟨[],[],0,fun _=>false⟩
def qgg(n:Nat):Nat→St→PT (DEx×St):=fun _ _=>.fail
theorem qjx(n:Nat):qJ (qd4 n).c (qo Tryz.f154) 0=[]:=by kernel_rfl
theorem qjy:Tryz.f154.body=some (qo Tryz.f154):=by kernel_rfl
abbrev qd5:List It:=[.v (.t 0) T35]
abbrev qcD:List (List It):=[[.row (.t 0) false T91 91]]
def qgA(n:Nat)(x:qc qd5):Option (qV qcD):=runW tab (qd4 n) (qgg n) (qo Tryz.f154) qd5 1 8 [.tmp 2] qcD x
def qjz(n:Nat):Cw Tryz.prog:=⟨154,1,qd5,1,qcD,qgA n,fun _ _ h=>qhz (B:=tab) (cs:=qd4 n) (lo:=qgg n) (rs:=[.tmp 2]) Tryz.func154 (by kernel_rfl) qjy (by kernel_rfl) (by decide) (qgo (qjx n) qdH) h⟩
end
theorem qjA(n:Nat)(c:Nat):qcg n (.slice none 0 c,())=some ([],()):=by kernel_rfl
theorem qjB(n:Nat)(a:Addr)(c:Nat):qcg n (.slice (some a) 0 c,())=some ([],()):=by kernel_rfl
def qjC(n:Nat):Cw Tryz.prog:=qsJ 154 T91 qcD (qcg n) (qgA n) ([],()) (fun v y m0 h=>(qic n).okk (x:=(v,())) (y:=y) h m0 (qmr m0)) (fun l y m0 h=>(qjz n).okk (x:=(l,())) (y:=y) h m0 (qmr m0)) (fun A c=>by cases A with | none=>exact qjA n c | some a=>exact qjB n a c)
set_option maxHeartbeats 4000000
def qiW(hut:Int)(lo:Int):Nat→List (Int×Int)
 | 0=>[]
 | n+1=>(hut,lo)::qiW hut (lo+1) n
def qpC(s:Int×(Int×Int)):List (Int×Int):=qiW s.1 s.2.1 (s.2.2+1-s.2.1).toNat
def qdl:List (Int×(Int×Int))→List (Int×Int)
 | []=>[]
 | s::l=>qpC s++qdl l
def qrR(l:List (Int×(Int×Int))):Bool:=Nat.ble l.length 1000000&&l.all fun s=>decide (-9223372036854775808≤s.2.1)&&decide (s.2.2<9223372036854775807)
def qpD(y:Int×Int):qA [T158]:=(y,())
theorem qqN(l:List (Int×Int)):((l.map qpD).map (tysA [T158])).length=l.length:=by rw[List.length_map,List.length_map]
def qpE(l:List (Int×(Int×Int))):Option (List (qA [T158])):=cond (qrR l) (some ((qdl l).map qpD)) none
def qfE(l:List (Int×(Int×Int)))(k:Nat):Nat:=(qdl (l.take k)).length
theorem qk7(h:Int):∀(n:Nat) (lo:Int),(qiW h lo n).length=n
 | 0,_=>rfl
 | n+1,lo=>by simp[qiW,qk7 h n]
theorem qpF(h:Int):∀(n:Nat) (lo:Int) (j:Nat),j<n→(qiW h lo n)[j]?=some (h,lo+j)
 | n+1,lo,0,_=>by simp[qiW]
 | n+1,lo,j+1,hj=>by
  simp only[qiW,List.getElem?_cons_succ]
  rw[qpF h n (lo+1) j (by omega)]
  congr 2
  omega
theorem qmt:∀(l m:List (Int×(Int×Int))),qdl (l++m)=qdl l++qdl m
 | [],_=>rfl
 | s::l,m=>by simp[qdl,qmt l m]
theorem qte(l:List (Int×(Int×Int)))(k:Nat)(hk:k<l.length):qfE l (k+1)=qfE l k+(l[k].2.2+1-l[k].2.1).toNat:=by
 unfold qfE
 rw[List.take_succ_eq_append_getElem hk,qmt]
 simp[qdl,qpC,qk7]
theorem que(l:List (Int×(Int×Int))):qfE l l.length=(qdl l).length:=by unfold qfE;simp
theorem qvo(l:List (Int×(Int×Int)))(k:Nat)(hk:k<l.length)(j:Nat)(hj:j<(l[k].2.2+1-l[k].2.1).toNat):(qdl l)[qfE l k+j]?=some (l[k].1,l[k].2.1+j):=by
 have h1:l=l.take k++l[k]::l.drop (k+1):=by simp
 have h2:qdl l=qdl (l.take k)++(qpC l[k]++qdl (l.drop (k+1))):=by
  conv=>lhs;rw[h1]
  rw[qmt];rfl
 rw[h2,List.getElem?_append_right (by unfold qfE;omega),show qfE l k+j-(qdl (l.take k)).length=j by unfold qfE;omega,List.getElem?_append_left (by unfold qpC;rw[qk7];exact hj)]
 exact qpF _ _ _ _ hj
theorem qvQ{a b:Int}(h:a=b):[AV.int a]=[AV.int b]:=by rw[h]
theorem qvp(x:qA [T91])(l:List (qA [T158]))(h:qpE x.1.2.2.2.2=some l):qo4 Tryz.prog false 183 [] (qet [T91] x) (l.map (tysA [T158])):=by
 obtain ⟨⟨ma,mb,mc,md,ss⟩,u⟩:=x
 change List (Int×(Int×Int)) at ss
 unfold qpE at h
 cases hb:qrR ss with
 | false=>simp only at h;rw[hb] at h;cases h
 | true =>
 simp only at h;rw[hb] at h
 injection h with h
 subst h
 unfold qrR at hb
 simp only[Bool.and_eq_true,Nat.ble_eq,List.all_eq_true,decide_eq_true_eq] at hb
 obtain ⟨hlen,hbd⟩:=hb
 refine ⟨enters_of Tryz.func183 (by kernel_rfl) rfl,fun lp T J Jx X hcJ hcx hone hy=>?_⟩
 have hyk:∀k (hk:k<ss.length) (j:Nat),j<(ss[k].2.2+1-ss[k].2.1).toNat→qo3 Tryz.prog T lp [.agg [.int ss[k].1,.int (ss[k].2.1+j)]] (J (qfE ss k+j)) (J (qfE ss k+j+1)) Jx:=fun k hk j hj=>by
  have h1:=qvo ss k hk j hj
  have h2:=(List.getElem?_eq_some_iff.1 h1).1
  have h3:=hy (qfE ss k+j) (by rw[qqN];exact h2)
  rw[List.getElem_map,List.getElem_map,(List.getElem?_eq_some_iff.1 h1).2] at h3
  exact h3
 have hY:=Lib.hid hyk
 have hN:=Lib.hid (qte ss)
 have hN0:qfE ss 0=0:=rfl
 have hNl:qfE ss ss.length=(((qdl ss).map qpD).map (tysA [T158])).length:=by rw[que,qqN]
 show MCT Tryz.prog T 183 [.val (.func (.yield lp) #[] #[]),.rp [.val (.int .i64 ma),.val (.int .i64 mb),.val (.int .i64 mc),.val (.int .i64 md),.sl 3 (ss.map fun s=>[.val (.int .i64 s.1),.val (.int .i64 s.2.1),.val (.int .i64 s.2.2)])]] [.nodef,.ghost X (J 0)] fun _ H'=>∃X',HE.ghost X' (J (((qdl ss).map qpD).map (tysA [T158])).length)∈H'∨HE.ghost X' Jx∈H'
 rw[← hNl,← hN0]
 clear hy hyk hNl
 generalize hrr:(ss.map fun s=>[AV.val (.int .i64 s.1),AV.val (.int .i64 s.2.1),AV.val (.int .i64 s.2.2)])=rr
 have hrl:rr.length=ss.length:=by rw[← hrr];simp
 have hra:∀k (hk:k<ss.length),rr[k]?=some [.int ss[k].1,.int ss[k].2.1,.int ss[k].2.2]:=fun k hk=>by rw[← hrr,List.getElem?_map,List.getElem?_eq_getElem hk];rfl
 (refine MCT.of Tryz.func183 (by kernel_rfl) rfl (by simp only[Tryz.ntmps183,List.length_cons,List.length_nil,Nat.reduceAdd,Nat.reduceSub,List.replicate_succ,List.replicate_zero,List.cons_append,List.nil_append];rfl) fun w0 S hM hT=>?_;have hF:Wf Fence.wide:=.inl rfl)
 (repeat' (first | ((first | with_reducible refine AL.id_ ?_ | with_reducible refine AE.id_ ?_);first | refine AL.build0 hF rfl rfl rfl (fun b=>⟨_,(by simp only[AV.put];rfl),?_⟩) | refine W.s rfl rfl (by first | exact AY.bx rfl (by simp only[evO,AV.get];rfl) rfl | exact AY.mkFn rfl (by simp only[List.map_cons,List.map_nil,evO,AV.get];rfl) | exact AY.mkFn1 rfl (by simp only[evO,AV.get];rfl) (by simp only[List.map_cons,List.map_nil,evO,AV.get];rfl) | exact hEQ rfl rfl rfl | exact Step2.sound (by first | (((first | (apply Step2.a;constructor) | (apply Step2.b;constructor))<;>first | infer_instance | skip)<;>(first | infer_instance | (refine w64c ?_;omega) | (refine qlY ?_;omega) | (refine qkc ?_;omega) | (refine qkd ?_;omega) | (refine qlV ?_;omega) | ((repeat (first | exact .head _ | refine .tail _ ?_));done) | assumption | (simp only[List.drop_succ_cons,List.drop_zero,List.length_map,Nat.zero_add,Nat.mul_one];rfl) | rfl | omega | (simp;done))) | fail) rfl | exact AY.call rfl rfl _ rfl (by fail) | exact AY.slice1 rfl rfl rfl (by rfl) (by first | (simp;done) | fail) | exact AY.callF rfl _ _ rfl _ rfl (by fail) | exact AY.old1k 0 rfl rfl rfl (by first | assumption | rfl) | exact AY.old1k 1 rfl rfl rfl (by first | assumption | rfl) | exact AY.old1k 2 rfl rfl rfl (by first | assumption | rfl) | exact AY.oldNk 0 rfl rfl rfl (by first | omega | (simp;omega)) (by first | assumption | rfl) | exact AY.oldNk 1 rfl rfl rfl (by first | omega | (simp;omega)) (by first | assumption | rfl)) (by simp only[AV.put];rfl) ?_ | (refine AL.nilK (hK _ _ ?_);clear hK K) | (refine AE.nil (hK _ ?_);clear hK K) | refine W.k rfl rfl (by simp only[AV.put];rfl) ?_ | refine AL.unguardS rfl rfl ?_ | refine AL.al hF rfl rfl rfl (by first | (simp only[Value.cells,List.map_cons,List.map_nil];rfl) | rfl) (fun b=>⟨_,(by simp only[AV.put];rfl),?_⟩) | refine AL.st1 hF rfl rfl rfl rfl (by simp only[evO,AV.get];rfl) (by first | exact qgN | exact qgO | exact qgP | exact qgQ | exact qgR | exact qgS | exact qgT | exact qgU) (by rfl) rfl (by rfl) (by first | (simp;done) | (simp;omega) | omega) (by simp only[List.set];rfl) ?_ | refine AL.stW hF rfl rfl rfl rfl (by simp only[evO,AV.get];rfl) (by first | exact qgN | exact qgO | exact qgP | exact qgQ | exact qgR | exact qgS | exact qgT | exact qgU) (by rfl) (by rfl) (by rfl) (by first | rfl | simp) (by simp only[List.set];rfl) ?_) | (with_reducible refine Awp.id_ ?_;first | refine Awp.seq ?_ | refine Awp.regionK (by first | (simp only[AV.putO,AV.put];rfl) | rfl) (fun K hK=>?_) | refine Awp.drawE (by first | (simp only[AV.putO,AV.put];rfl) | rfl) mixed rfl (by kernel_rfl) (fun K hK=>?_) | refine Awp.block ?_ | refine Awp.skip ?_ | refine Awp.exit ?_ | refine Awp.ret ?_ | refine Awp.condT rfl ?_ | refine Awp.condF rfl ?_) | refine qiC ?_ | refine qiD ?_ | refine qiE ?_ | refine qgi ?_ | refine qgj ?_ | refine qgk ?_ | refine qgl rfl ?_ | ((first | ((first | with_reducible refine AL.id_ ?_ | with_reducible refine AE.id_ ?_);(fail_if_success refine W.on rfl ?_);refine W.p rfl rfl (by simp only[AV.put];rfl) (by simp only[AV.put];rfl) (fun hb=>?_) (fun hb=>?_)) | (with_reducible refine Awp.id_ ?_;refine Awp.cond _ rfl (fun hb=>?_) (fun hb=>?_)))<;>(try simp only[z1,z2,z3,z4,z5,z6,z7,z8,y5,y6,y7,y8,z9,x1,x2,x3,x4,x5,x6,x7,x8] at hb;try (exfalso;omega)))))
 refine Awp.loopM [4,5,10,11,12,13,14,15,16,17,18,19,20,21,22,23,24,25,26,27,28,29,30] [9] (fun n vs H=>∃(k:Nat) (X':Nat→Prop),n+k=ss.length∧vs=[.int k]∧H=[.nodef,.ghost X' (J (qfE ss k))]) ss.length ⟨0,X,rfl,rfl,rfl⟩ ?_
 rintro n ju vs H ⟨k,X',hk,rfl,rfl⟩
 (refine Awp.slots (by first | (simp only[putl,mask,AV.put];rfl) | rfl) ?_)
 by_cases hlt:k<ss.length
 ·have hrow:=hra k hlt
  have hYk:=Lib.hid (hY.out k hlt)
  have hNk:=hN.out k hlt
  obtain ⟨hb1,hb2⟩:=hbd _ (List.getElem_mem hlt)
  generalize ss[k].1=hu at *
  generalize ss[k].2.1=lo at *
  generalize ss[k].2.2=hi at *
  (repeat' (first | ((first | with_reducible refine AL.id_ ?_ | with_reducible refine AE.id_ ?_);first | refine AL.build0 hF rfl rfl rfl (fun b=>⟨_,(by simp only[AV.put];rfl),?_⟩) | refine W.s rfl rfl (by first | exact AY.bx rfl (by simp only[evO,AV.get];rfl) rfl | exact AY.mkFn rfl (by simp only[List.map_cons,List.map_nil,evO,AV.get];rfl) | exact AY.mkFn1 rfl (by simp only[evO,AV.get];rfl) (by simp only[List.map_cons,List.map_nil,evO,AV.get];rfl) | exact hEQ rfl rfl rfl | exact Step2.sound (by first | (((first | (apply Step2.a;constructor) | (apply Step2.b;constructor))<;>first | infer_instance | skip)<;>(first | infer_instance | (refine w64c ?_;omega) | (refine qlY ?_;omega) | (refine qkc ?_;omega) | (refine qkd ?_;omega) | (refine qlV ?_;omega) | ((repeat (first | exact .head _ | refine .tail _ ?_));done) | assumption | (simp only[List.drop_succ_cons,List.drop_zero,List.length_map,Nat.zero_add,Nat.mul_one];rfl) | rfl | omega | (simp;done))) | fail) rfl | exact AY.call rfl rfl _ rfl (by fail) | exact AY.slice1 rfl rfl rfl (by rfl) (by first | (simp;done) | fail) | exact AY.callF rfl _ _ rfl _ rfl (by fail) | exact AY.old1k 0 rfl rfl rfl (by first | assumption | rfl) | exact AY.old1k 1 rfl rfl rfl (by first | assumption | rfl) | exact AY.old1k 2 rfl rfl rfl (by first | assumption | rfl) | exact AY.oldNk 0 rfl rfl rfl (by first | omega | (simp;omega)) (by first | assumption | rfl) | exact AY.oldNk 1 rfl rfl rfl (by first | omega | (simp;omega)) (by first | assumption | rfl)) (by simp only[AV.put];rfl) ?_ | (refine AL.nilK (hK _ _ ?_);clear hK K) | (refine AE.nil (hK _ ?_);clear hK K) | refine W.k rfl rfl (by simp only[AV.put];rfl) ?_ | refine AL.unguardS rfl rfl ?_ | refine AL.al hF rfl rfl rfl (by first | (simp only[Value.cells,List.map_cons,List.map_nil];rfl) | rfl) (fun b=>⟨_,(by simp only[AV.put];rfl),?_⟩) | refine AL.st1 hF rfl rfl rfl rfl (by simp only[evO,AV.get];rfl) (by first | exact qgN | exact qgO | exact qgP | exact qgQ | exact qgR | exact qgS | exact qgT | exact qgU) (by rfl) rfl (by rfl) (by first | (simp;done) | (simp;omega) | omega) (by simp only[List.set];rfl) ?_ | refine AL.stW hF rfl rfl rfl rfl (by simp only[evO,AV.get];rfl) (by first | exact qgN | exact qgO | exact qgP | exact qgQ | exact qgR | exact qgS | exact qgT | exact qgU) (by rfl) (by rfl) (by rfl) (by first | rfl | simp) (by simp only[List.set];rfl) ?_) | (with_reducible refine Awp.id_ ?_;first | refine Awp.seq ?_ | refine Awp.regionK (by first | (simp only[AV.putO,AV.put];rfl) | rfl) (fun K hK=>?_) | refine Awp.drawE (by first | (simp only[AV.putO,AV.put];rfl) | rfl) mixed rfl (by kernel_rfl) (fun K hK=>?_) | refine Awp.block ?_ | refine Awp.skip ?_ | refine Awp.exit ?_ | refine Awp.ret ?_ | refine Awp.condT rfl ?_ | refine Awp.condF rfl ?_) | refine qiC ?_ | refine qiD ?_ | refine qiE ?_ | refine qgi ?_ | refine qgj ?_ | refine qgk ?_ | refine qgl rfl ?_ | ((first | ((first | with_reducible refine AL.id_ ?_ | with_reducible refine AE.id_ ?_);(fail_if_success refine W.on rfl ?_);refine W.p rfl rfl (by simp only[AV.put];rfl) (by simp only[AV.put];rfl) (fun hb=>?_) (fun hb=>?_)) | (with_reducible refine Awp.id_ ?_;refine Awp.cond _ rfl (fun hb=>?_) (fun hb=>?_)))<;>(try simp only[z1,z2,z3,z4,z5,z6,z7,z8,y5,y6,y7,y8,z9,x1,x2,x3,x4,x5,x6,x7,x8] at hb;try (exfalso;omega)))))
  refine Awp.loopM [16,17,18,19,20,21,22,23,24,25,26,27,28,29] [5] (fun n vs H=>∃(j:Nat) (X3:Nat→Prop),n+j=(hi+1-lo).toNat∧vs=[.int (lo+j)]∧H=[.blk b 95 [.int hu,.int lo,.int hi],.nodef,.ghost X3 (J (qfE ss k+j))]) (hi+1-lo).toNat ⟨0,X',by omega,by simp;rfl,rfl⟩ ?_
  rintro n1 ju1 vs1 H1 ⟨j,X3,hj,rfl,rfl⟩
  (refine Awp.slots (by first | (simp only[putl,mask,AV.put];rfl) | rfl) ?_)
  by_cases hlt2:j<(hi+1-lo).toNat
  ·have hle:lo+j≤hi:=by omega
   have hye:=hYk.out j hlt2
   (repeat' (first | ((first | with_reducible refine AL.id_ ?_ | with_reducible refine AE.id_ ?_);first | refine AL.build0 hF rfl rfl rfl (fun b=>⟨_,(by simp only[AV.put];rfl),?_⟩) | refine W.s rfl rfl (by first | exact AY.bx rfl (by simp only[evO,AV.get];rfl) rfl | exact AY.mkFn rfl (by simp only[List.map_cons,List.map_nil,evO,AV.get];rfl) | exact AY.mkFn1 rfl (by simp only[evO,AV.get];rfl) (by simp only[List.map_cons,List.map_nil,evO,AV.get];rfl) | exact AY.build rfl (by simp only[List.map_cons,List.map_nil,evO,AV.get];rfl) (by simp only[List.map_cons,List.map_nil];repeat (first | exact Places.nil | apply Places.cons)) (by first | (simp only[zip3,qbI,qcA,qbc,qq,qd1,List.map_cons,List.map_nil,List.length_cons,List.length_nil,List.take_succ_cons,List.take_zero,List.drop_succ_cons,List.drop_zero,List.replicate_succ,List.replicate_zero,List.cons_append,List.nil_append,List.append_nil,List.drop_nil,List.take_nil,List.toList_toArray,Nat.sub_zero,Nat.reduceSub,Nat.reduceAdd,Nat.reduceMul,Nat.zero_mul,Nat.one_mul,Nat.mul_one,Nat.zero_add,Nat.le_refl,Nat.reduceLeDiff,and_self,true_and,and_true,if_true];rfl) | rfl) | exact AY.buildS rfl (by simp only[List.map_cons,List.map_nil,evO,AV.get];rfl) (by first | rfl | decide) (by omega) (by first | (simp only[zip3,qbI,qcA,qbc,qq,qd1,List.map_cons,List.map_nil,List.length_cons,List.length_nil,List.take_succ_cons,List.take_zero,List.drop_succ_cons,List.drop_zero,List.replicate_succ,List.replicate_zero,List.cons_append,List.nil_append,List.append_nil,List.drop_nil,List.take_nil,List.toList_toArray,Nat.sub_zero,Nat.reduceSub,Nat.reduceAdd,Nat.reduceMul,Nat.zero_mul,Nat.one_mul,Nat.mul_one,Nat.zero_add,Nat.le_refl,Nat.reduceLeDiff,and_self,true_and,and_true,if_true];rfl) | rfl) (by first | (simp only[zip3,qbI,qcA,qbc,qq,qd1,List.map_cons,List.map_nil,List.length_cons,List.length_nil,List.take_succ_cons,List.take_zero,List.drop_succ_cons,List.drop_zero,List.replicate_succ,List.replicate_zero,List.cons_append,List.nil_append,List.append_nil,List.drop_nil,List.take_nil,List.toList_toArray,Nat.sub_zero,Nat.reduceSub,Nat.reduceAdd,Nat.reduceMul,Nat.zero_mul,Nat.one_mul,Nat.mul_one,Nat.zero_add,Nat.le_refl,Nat.reduceLeDiff,and_self,true_and,and_true,if_true];rfl) | rfl) | exact hEQ rfl rfl rfl | exact Step2.sound (by first | (((first | (apply Step2.a;constructor) | (apply Step2.b;constructor))<;>first | infer_instance | skip)<;>(first | infer_instance | (refine w64c ?_;omega) | (refine qlY ?_;omega) | (refine qkc ?_;omega) | (refine qkd ?_;omega) | (refine qlV ?_;omega) | ((repeat (first | exact .head _ | refine .tail _ ?_));done) | assumption | (simp only[List.drop_succ_cons,List.drop_zero,List.length_map,Nat.zero_add,Nat.mul_one];rfl) | rfl | omega | (simp;done))) | fail) rfl | exact AY.call rfl rfl _ rfl (by fail) | exact AY.slice1 rfl rfl rfl (by rfl) (by first | (simp;done) | fail) | exact AY.callF rfl _ _ rfl _ rfl (by fail) | exact AY.old1k 0 rfl rfl rfl (by first | assumption | rfl) | exact AY.old1k 1 rfl rfl rfl (by first | assumption | rfl) | exact AY.old1k 2 rfl rfl rfl (by first | assumption | rfl) | exact AY.oldNk 0 rfl rfl rfl (by first | omega | (simp;omega)) (by first | assumption | rfl) | exact AY.oldNk 1 rfl rfl rfl (by first | omega | (simp;omega)) (by first | assumption | rfl)) (by simp only[AV.put];rfl) ?_ | (refine AL.nilK (hK _ _ ?_);clear hK K) | (refine AE.nil (hK _ ?_);clear hK K) | refine W.k rfl rfl (by simp only[AV.put];rfl) ?_ | refine AL.unguardS rfl rfl ?_ | refine AL.al hF rfl rfl rfl (by first | (simp only[Value.cells,List.map_cons,List.map_nil];rfl) | rfl) (fun b=>⟨_,(by simp only[AV.put];rfl),?_⟩) | refine AL.st1 hF rfl rfl rfl rfl (by simp only[evO,AV.get];rfl) (by first | exact qgN | exact qgO | exact qgP | exact qgQ | exact qgR | exact qgS | exact qgT | exact qgU) (by rfl) rfl (by rfl) (by first | (simp;done) | (simp;omega) | omega) (by simp only[List.set];rfl) ?_ | refine AL.stW hF rfl rfl rfl rfl (by simp only[evO,AV.get];rfl) (by first | exact qgN | exact qgO | exact qgP | exact qgQ | exact qgR | exact qgS | exact qgT | exact qgU) (by rfl) (by rfl) (by rfl) (by first | rfl | simp) (by simp only[List.set];rfl) ?_) | (with_reducible refine Awp.id_ ?_;first | refine Awp.seq ?_ | refine Awp.regionK (by first | (simp only[AV.putO,AV.put];rfl) | rfl) (fun K hK=>?_) | refine Awp.drawE (by first | (simp only[AV.putO,AV.put];rfl) | rfl) mixed rfl (by kernel_rfl) (fun K hK=>?_) | refine Awp.block ?_ | refine Awp.skip ?_ | refine Awp.exit ?_ | refine Awp.ret ?_ | refine Awp.condT rfl ?_ | refine Awp.condF rfl ?_) | refine qiC ?_ | refine qiD ?_ | refine qiE ?_ | refine qgi ?_ | refine qgj ?_ | refine qgk ?_ | refine qgl rfl ?_ | ((first | ((first | with_reducible refine AL.id_ ?_ | with_reducible refine AE.id_ ?_);(fail_if_success refine W.on rfl ?_);refine W.p rfl rfl (by simp only[AV.put];rfl) (by simp only[AV.put];rfl) (fun hb=>?_) (fun hb=>?_)) | (with_reducible refine Awp.id_ ?_;refine Awp.cond _ rfl (fun hb=>?_) (fun hb=>?_)))<;>(try simp only[z1,z2,z3,z4,z5,z6,z7,z8,y5,y6,y7,y8,z9,x1,x2,x3,x4,x5,x6,x7,x8] at hb;try (exfalso;omega)))))
   have hgho:∀i e,([HE.blk b 95 [.int hu,.int lo,.int hi],.nodef,.ghost X3 (J (qfE ss k+j))])[i]?=some e→e.isGhost→i=2:=fun i e h1 h2=>by
    match i,h1 with
    | 0,h1=>cases h1;exact h2.elim
    | 1,h1=>cases h1;exact h2.elim
    | 2,_=>rfl
   refine AL.yield 2 rfl rfl rfl rfl _ rfl rfl hgho (by simp) (fun b hA=>hT b fun h=>(hA.1 h).1) hye (hcJ _) hcx (fun X4=>?_) (fun X4=>?_)
   ·refine AL.norm (by simp only[AV.put];rfl) rfl ?_
    (repeat' (first | ((first | with_reducible refine AL.id_ ?_ | with_reducible refine AE.id_ ?_);first | refine AL.build0 hF rfl rfl rfl (fun b=>⟨_,(by simp only[AV.put];rfl),?_⟩) | refine W.s rfl rfl (by first | exact AY.bx rfl (by simp only[evO,AV.get];rfl) rfl | exact AY.mkFn rfl (by simp only[List.map_cons,List.map_nil,evO,AV.get];rfl) | exact AY.mkFn1 rfl (by simp only[evO,AV.get];rfl) (by simp only[List.map_cons,List.map_nil,evO,AV.get];rfl) | exact AY.build rfl (by simp only[List.map_cons,List.map_nil,evO,AV.get];rfl) (by simp only[List.map_cons,List.map_nil];repeat (first | exact Places.nil | apply Places.cons)) (by first | (simp only[zip3,qbI,qcA,qbc,qq,qd1,List.map_cons,List.map_nil,List.length_cons,List.length_nil,List.take_succ_cons,List.take_zero,List.drop_succ_cons,List.drop_zero,List.replicate_succ,List.replicate_zero,List.cons_append,List.nil_append,List.append_nil,List.drop_nil,List.take_nil,List.toList_toArray,Nat.sub_zero,Nat.reduceSub,Nat.reduceAdd,Nat.reduceMul,Nat.zero_mul,Nat.one_mul,Nat.mul_one,Nat.zero_add,Nat.le_refl,Nat.reduceLeDiff,and_self,true_and,and_true,if_true];rfl) | rfl) | exact AY.buildS rfl (by simp only[List.map_cons,List.map_nil,evO,AV.get];rfl) (by first | rfl | decide) (by omega) (by first | (simp only[zip3,qbI,qcA,qbc,qq,qd1,List.map_cons,List.map_nil,List.length_cons,List.length_nil,List.take_succ_cons,List.take_zero,List.drop_succ_cons,List.drop_zero,List.replicate_succ,List.replicate_zero,List.cons_append,List.nil_append,List.append_nil,List.drop_nil,List.take_nil,List.toList_toArray,Nat.sub_zero,Nat.reduceSub,Nat.reduceAdd,Nat.reduceMul,Nat.zero_mul,Nat.one_mul,Nat.mul_one,Nat.zero_add,Nat.le_refl,Nat.reduceLeDiff,and_self,true_and,and_true,if_true];rfl) | rfl) (by first | (simp only[zip3,qbI,qcA,qbc,qq,qd1,List.map_cons,List.map_nil,List.length_cons,List.length_nil,List.take_succ_cons,List.take_zero,List.drop_succ_cons,List.drop_zero,List.replicate_succ,List.replicate_zero,List.cons_append,List.nil_append,List.append_nil,List.drop_nil,List.take_nil,List.toList_toArray,Nat.sub_zero,Nat.reduceSub,Nat.reduceAdd,Nat.reduceMul,Nat.zero_mul,Nat.one_mul,Nat.mul_one,Nat.zero_add,Nat.le_refl,Nat.reduceLeDiff,and_self,true_and,and_true,if_true];rfl) | rfl) | exact hEQ rfl rfl rfl | exact Step2.sound (by first | (((first | (apply Step2.a;constructor) | (apply Step2.b;constructor))<;>first | infer_instance | skip)<;>(first | infer_instance | (refine w64c ?_;omega) | (refine qlY ?_;omega) | (refine qkc ?_;omega) | (refine qkd ?_;omega) | (refine qlV ?_;omega) | ((repeat (first | exact .head _ | refine .tail _ ?_));done) | assumption | (simp only[List.drop_succ_cons,List.drop_zero,List.length_map,Nat.zero_add,Nat.mul_one];rfl) | rfl | omega | (simp;done))) | fail) rfl | exact AY.call rfl rfl _ rfl (by fail) | exact AY.slice1 rfl rfl rfl (by rfl) (by first | (simp;done) | fail) | exact AY.callF rfl _ _ rfl _ rfl (by fail) | exact AY.old1k 0 rfl rfl rfl (by first | assumption | rfl) | exact AY.old1k 1 rfl rfl rfl (by first | assumption | rfl) | exact AY.old1k 2 rfl rfl rfl (by first | assumption | rfl) | exact AY.oldNk 0 rfl rfl rfl (by first | omega | (simp;omega)) (by first | assumption | rfl) | exact AY.oldNk 1 rfl rfl rfl (by first | omega | (simp;omega)) (by first | assumption | rfl)) (by simp only[AV.put];rfl) ?_ | (refine AL.nilK (hK _ _ ?_);clear hK K) | (refine AE.nil (hK _ ?_);clear hK K) | refine W.k rfl rfl (by simp only[AV.put];rfl) ?_ | refine AL.unguardS rfl rfl ?_ | refine AL.al hF rfl rfl rfl (by first | (simp only[Value.cells,List.map_cons,List.map_nil];rfl) | rfl) (fun b=>⟨_,(by simp only[AV.put];rfl),?_⟩) | refine AL.st1 hF rfl rfl rfl rfl (by simp only[evO,AV.get];rfl) (by first | exact qgN | exact qgO | exact qgP | exact qgQ | exact qgR | exact qgS | exact qgT | exact qgU) (by rfl) rfl (by rfl) (by first | (simp;done) | (simp;omega) | omega) (by simp only[List.set];rfl) ?_ | refine AL.stW hF rfl rfl rfl rfl (by simp only[evO,AV.get];rfl) (by first | exact qgN | exact qgO | exact qgP | exact qgQ | exact qgR | exact qgS | exact qgT | exact qgU) (by rfl) (by rfl) (by rfl) (by first | rfl | simp) (by simp only[List.set];rfl) ?_) | (with_reducible refine Awp.id_ ?_;first | refine Awp.seq ?_ | refine Awp.regionK (by first | (simp only[AV.putO,AV.put];rfl) | rfl) (fun K hK=>?_) | refine Awp.drawE (by first | (simp only[AV.putO,AV.put];rfl) | rfl) mixed rfl (by kernel_rfl) (fun K hK=>?_) | refine Awp.block ?_ | refine Awp.skip ?_ | refine Awp.exit ?_ | refine Awp.ret ?_ | refine Awp.condT rfl ?_ | refine Awp.condF rfl ?_) | refine qiC ?_ | refine qiD ?_ | refine qiE ?_ | refine qgi ?_ | refine qgj ?_ | refine qgk ?_ | refine qgl rfl ?_ | ((first | ((first | with_reducible refine AL.id_ ?_ | with_reducible refine AE.id_ ?_);(fail_if_success refine W.on rfl ?_);refine W.p rfl rfl (by simp only[AV.put];rfl) (by simp only[AV.put];rfl) (fun hb=>?_) (fun hb=>?_)) | (with_reducible refine Awp.id_ ?_;refine Awp.cond _ rfl (fun hb=>?_) (fun hb=>?_)))<;>(try simp only[z1,z2,z3,z4,z5,z6,z7,z8,y5,y6,y7,y8,z9,x1,x2,x3,x4,x5,x6,x7,x8] at hb;try (exfalso;omega)))))
    (refine qvW (n1-1) (by first | (simp only[AV.putO,AV.put];rfl) | rfl) (by omega) ?_ (by simp only[List.map,AV.get,mask,putl,AV.put]))
    exact ⟨j+1,X4,by omega,qvQ (by omega),rfl⟩
   ·refine AL.norm (by simp only[AV.put];rfl) rfl ?_
    (repeat' (first | ((first | with_reducible refine AL.id_ ?_ | with_reducible refine AE.id_ ?_);first | refine AL.build0 hF rfl rfl rfl (fun b=>⟨_,(by simp only[AV.put];rfl),?_⟩) | refine W.s rfl rfl (by first | exact AY.bx rfl (by simp only[evO,AV.get];rfl) rfl | exact AY.mkFn rfl (by simp only[List.map_cons,List.map_nil,evO,AV.get];rfl) | exact AY.mkFn1 rfl (by simp only[evO,AV.get];rfl) (by simp only[List.map_cons,List.map_nil,evO,AV.get];rfl) | exact AY.build rfl (by simp only[List.map_cons,List.map_nil,evO,AV.get];rfl) (by simp only[List.map_cons,List.map_nil];repeat (first | exact Places.nil | apply Places.cons)) (by first | (simp only[zip3,qbI,qcA,qbc,qq,qd1,List.map_cons,List.map_nil,List.length_cons,List.length_nil,List.take_succ_cons,List.take_zero,List.drop_succ_cons,List.drop_zero,List.replicate_succ,List.replicate_zero,List.cons_append,List.nil_append,List.append_nil,List.drop_nil,List.take_nil,List.toList_toArray,Nat.sub_zero,Nat.reduceSub,Nat.reduceAdd,Nat.reduceMul,Nat.zero_mul,Nat.one_mul,Nat.mul_one,Nat.zero_add,Nat.le_refl,Nat.reduceLeDiff,and_self,true_and,and_true,if_true];rfl) | rfl) | exact AY.buildS rfl (by simp only[List.map_cons,List.map_nil,evO,AV.get];rfl) (by first | rfl | decide) (by omega) (by first | (simp only[zip3,qbI,qcA,qbc,qq,qd1,List.map_cons,List.map_nil,List.length_cons,List.length_nil,List.take_succ_cons,List.take_zero,List.drop_succ_cons,List.drop_zero,List.replicate_succ,List.replicate_zero,List.cons_append,List.nil_append,List.append_nil,List.drop_nil,List.take_nil,List.toList_toArray,Nat.sub_zero,Nat.reduceSub,Nat.reduceAdd,Nat.reduceMul,Nat.zero_mul,Nat.one_mul,Nat.mul_one,Nat.zero_add,Nat.le_refl,Nat.reduceLeDiff,and_self,true_and,and_true,if_true];rfl) | rfl) (by first | (simp only[zip3,qbI,qcA,qbc,qq,qd1,List.map_cons,List.map_nil,List.length_cons,List.length_nil,List.take_succ_cons,List.take_zero,List.drop_succ_cons,List.drop_zero,List.replicate_succ,List.replicate_zero,List.cons_append,List.nil_append,List.append_nil,List.drop_nil,List.take_nil,List.toList_toArray,Nat.sub_zero,Nat.reduceSub,Nat.reduceAdd,Nat.reduceMul,Nat.zero_mul,Nat.one_mul,Nat.mul_one,Nat.zero_add,Nat.le_refl,Nat.reduceLeDiff,and_self,true_and,and_true,if_true];rfl) | rfl) | exact hEQ rfl rfl rfl | exact Step2.sound (by first | (((first | (apply Step2.a;constructor) | (apply Step2.b;constructor))<;>first | infer_instance | skip)<;>(first | infer_instance | (refine w64c ?_;omega) | (refine qlY ?_;omega) | (refine qkc ?_;omega) | (refine qkd ?_;omega) | (refine qlV ?_;omega) | ((repeat (first | exact .head _ | refine .tail _ ?_));done) | assumption | (simp only[List.drop_succ_cons,List.drop_zero,List.length_map,Nat.zero_add,Nat.mul_one];rfl) | rfl | omega | (simp;done))) | fail) rfl | exact AY.call rfl rfl _ rfl (by fail) | exact AY.slice1 rfl rfl rfl (by rfl) (by first | (simp;done) | fail) | exact AY.callF rfl _ _ rfl _ rfl (by fail) | exact AY.old1k 0 rfl rfl rfl (by first | assumption | rfl) | exact AY.old1k 1 rfl rfl rfl (by first | assumption | rfl) | exact AY.old1k 2 rfl rfl rfl (by first | assumption | rfl) | exact AY.oldNk 0 rfl rfl rfl (by first | omega | (simp;omega)) (by first | assumption | rfl) | exact AY.oldNk 1 rfl rfl rfl (by first | omega | (simp;omega)) (by first | assumption | rfl)) (by simp only[AV.put];rfl) ?_ | (refine AL.nilK (hK _ _ ?_);clear hK K) | (refine AE.nil (hK _ ?_);clear hK K) | refine W.k rfl rfl (by simp only[AV.put];rfl) ?_ | refine AL.unguardS rfl rfl ?_ | refine AL.al hF rfl rfl rfl (by first | (simp only[Value.cells,List.map_cons,List.map_nil];rfl) | rfl) (fun b=>⟨_,(by simp only[AV.put];rfl),?_⟩) | refine AL.st1 hF rfl rfl rfl rfl (by simp only[evO,AV.get];rfl) (by first | exact qgN | exact qgO | exact qgP | exact qgQ | exact qgR | exact qgS | exact qgT | exact qgU) (by rfl) rfl (by rfl) (by first | (simp;done) | (simp;omega) | omega) (by simp only[List.set];rfl) ?_ | refine AL.stW hF rfl rfl rfl rfl (by simp only[evO,AV.get];rfl) (by first | exact qgN | exact qgO | exact qgP | exact qgQ | exact qgR | exact qgS | exact qgT | exact qgU) (by rfl) (by rfl) (by rfl) (by first | rfl | simp) (by simp only[List.set];rfl) ?_) | (with_reducible refine Awp.id_ ?_;first | refine Awp.seq ?_ | refine Awp.regionK (by first | (simp only[AV.putO,AV.put];rfl) | rfl) (fun K hK=>?_) | refine Awp.drawE (by first | (simp only[AV.putO,AV.put];rfl) | rfl) mixed rfl (by kernel_rfl) (fun K hK=>?_) | refine Awp.block ?_ | refine Awp.skip ?_ | refine Awp.exit ?_ | refine Awp.ret ?_ | refine Awp.condT rfl ?_ | refine Awp.condF rfl ?_) | refine qiC ?_ | refine qiD ?_ | refine qiE ?_ | refine qgi ?_ | refine qgj ?_ | refine qgk ?_ | refine qgl rfl ?_ | ((first | ((first | with_reducible refine AL.id_ ?_ | with_reducible refine AE.id_ ?_);(fail_if_success refine W.on rfl ?_);refine W.p rfl rfl (by simp only[AV.put];rfl) (by simp only[AV.put];rfl) (fun hb=>?_) (fun hb=>?_)) | (with_reducible refine Awp.id_ ?_;refine Awp.cond _ rfl (fun hb=>?_) (fun hb=>?_)))<;>(try simp only[z1,z2,z3,z4,z5,z6,z7,z8,y5,y6,y7,y8,z9,x1,x2,x3,x4,x5,x6,x7,x8] at hb;try (exfalso;omega)))))
    exact qtt rfl ⟨X4,.inr (List.mem_of_getElem? (i:=2) rfl)⟩
  ·have hle:¬(lo+j≤hi):=by omega
   (repeat' (first | ((first | with_reducible refine AL.id_ ?_ | with_reducible refine AE.id_ ?_);first | refine AL.build0 hF rfl rfl rfl (fun b=>⟨_,(by simp only[AV.put];rfl),?_⟩) | refine W.s rfl rfl (by first | exact AY.bx rfl (by simp only[evO,AV.get];rfl) rfl | exact AY.mkFn rfl (by simp only[List.map_cons,List.map_nil,evO,AV.get];rfl) | exact AY.mkFn1 rfl (by simp only[evO,AV.get];rfl) (by simp only[List.map_cons,List.map_nil,evO,AV.get];rfl) | exact hEQ rfl rfl rfl | exact Step2.sound (by first | (((first | (apply Step2.a;constructor) | (apply Step2.b;constructor))<;>first | infer_instance | skip)<;>(first | infer_instance | (refine w64c ?_;omega) | (refine qlY ?_;omega) | (refine qkc ?_;omega) | (refine qkd ?_;omega) | (refine qlV ?_;omega) | ((repeat (first | exact .head _ | refine .tail _ ?_));done) | assumption | (simp only[List.drop_succ_cons,List.drop_zero,List.length_map,Nat.zero_add,Nat.mul_one];rfl) | rfl | omega | (simp;done))) | fail) rfl | exact AY.call rfl rfl _ rfl (by fail) | exact AY.slice1 rfl rfl rfl (by rfl) (by first | (simp;done) | fail) | exact AY.callF rfl _ _ rfl _ rfl (by fail) | exact AY.old1k 0 rfl rfl rfl (by first | assumption | rfl) | exact AY.old1k 1 rfl rfl rfl (by first | assumption | rfl) | exact AY.old1k 2 rfl rfl rfl (by first | assumption | rfl) | exact AY.oldNk 0 rfl rfl rfl (by first | omega | (simp;omega)) (by first | assumption | rfl) | exact AY.oldNk 1 rfl rfl rfl (by first | omega | (simp;omega)) (by first | assumption | rfl)) (by simp only[AV.put];rfl) ?_ | (refine AL.nilK (hK _ _ ?_);clear hK K) | (refine AE.nil (hK _ ?_);clear hK K) | refine W.k rfl rfl (by simp only[AV.put];rfl) ?_ | refine AL.unguardS rfl rfl ?_ | refine AL.al hF rfl rfl rfl (by first | (simp only[Value.cells,List.map_cons,List.map_nil];rfl) | rfl) (fun b=>⟨_,(by simp only[AV.put];rfl),?_⟩) | refine AL.st1 hF rfl rfl rfl rfl (by simp only[evO,AV.get];rfl) (by first | exact qgN | exact qgO | exact qgP | exact qgQ | exact qgR | exact qgS | exact qgT | exact qgU) (by rfl) rfl (by rfl) (by first | (simp;done) | (simp;omega) | omega) (by simp only[List.set];rfl) ?_ | refine AL.stW hF rfl rfl rfl rfl (by simp only[evO,AV.get];rfl) (by first | exact qgN | exact qgO | exact qgP | exact qgQ | exact qgR | exact qgS | exact qgT | exact qgU) (by rfl) (by rfl) (by rfl) (by first | rfl | simp) (by simp only[List.set];rfl) ?_) | (with_reducible refine Awp.id_ ?_;first | refine Awp.seq ?_ | refine Awp.regionK (by first | (simp only[AV.putO,AV.put];rfl) | rfl) (fun K hK=>?_) | refine Awp.drawE (by first | (simp only[AV.putO,AV.put];rfl) | rfl) mixed rfl (by kernel_rfl) (fun K hK=>?_) | refine Awp.block ?_ | refine Awp.skip ?_ | refine Awp.exit ?_ | refine Awp.ret ?_ | refine Awp.condT rfl ?_ | refine Awp.condF rfl ?_) | refine qiC ?_ | refine qiD ?_ | refine qiE ?_ | refine qgi ?_ | refine qgj ?_ | refine qgk ?_ | refine qgl rfl ?_ | ((first | ((first | with_reducible refine AL.id_ ?_ | with_reducible refine AE.id_ ?_);(fail_if_success refine W.on rfl ?_);refine W.p rfl rfl (by simp only[AV.put];rfl) (by simp only[AV.put];rfl) (fun hb=>?_) (fun hb=>?_)) | (with_reducible refine Awp.id_ ?_;refine Awp.cond _ rfl (fun hb=>?_) (fun hb=>?_)))<;>(try simp only[z1,z2,z3,z4,z5,z6,z7,z8,y5,y6,y7,y8,z9,x1,x2,x3,x4,x5,x6,x7,x8] at hb;try (exfalso;omega)))))
   (refine quA (n-1) (List.sublist_cons_self _ _) (by first | (simp only[AV.putO,AV.put];rfl) | rfl) (by omega) ?_ (by simp only[List.map,AV.get,mask,putl,AV.put]))
   exact ⟨k+1,X3,by omega,qvQ (by omega),by rw[hNk,show (hi+1-lo).toNat=j by omega]⟩
 ·(repeat' (first | ((first | with_reducible refine AL.id_ ?_ | with_reducible refine AE.id_ ?_);first | refine AL.build0 hF rfl rfl rfl (fun b=>⟨_,(by simp only[AV.put];rfl),?_⟩) | refine W.s rfl rfl (by first | exact AY.bx rfl (by simp only[evO,AV.get];rfl) rfl | exact AY.mkFn rfl (by simp only[List.map_cons,List.map_nil,evO,AV.get];rfl) | exact AY.mkFn1 rfl (by simp only[evO,AV.get];rfl) (by simp only[List.map_cons,List.map_nil,evO,AV.get];rfl) | exact hEQ rfl rfl rfl | exact Step2.sound (by first | (((first | (apply Step2.a;constructor) | (apply Step2.b;constructor))<;>first | infer_instance | skip)<;>(first | infer_instance | (refine w64c ?_;omega) | (refine qlY ?_;omega) | (refine qkc ?_;omega) | (refine qkd ?_;omega) | (refine qlV ?_;omega) | ((repeat (first | exact .head _ | refine .tail _ ?_));done) | assumption | (simp only[List.drop_succ_cons,List.drop_zero,List.length_map,Nat.zero_add,Nat.mul_one];rfl) | rfl | omega | (simp;done))) | fail) rfl | exact AY.call rfl rfl _ rfl (by fail) | exact AY.slice1 rfl rfl rfl (by rfl) (by first | (simp;done) | fail) | exact AY.callF rfl _ _ rfl _ rfl (by fail) | exact AY.old1k 0 rfl rfl rfl (by first | assumption | rfl) | exact AY.old1k 1 rfl rfl rfl (by first | assumption | rfl) | exact AY.old1k 2 rfl rfl rfl (by first | assumption | rfl) | exact AY.oldNk 0 rfl rfl rfl (by first | omega | (simp;omega)) (by first | assumption | rfl) | exact AY.oldNk 1 rfl rfl rfl (by first | omega | (simp;omega)) (by first | assumption | rfl)) (by simp only[AV.put];rfl) ?_ | (refine AL.nilK (hK _ _ ?_);clear hK K) | (refine AE.nil (hK _ ?_);clear hK K) | refine W.k rfl rfl (by simp only[AV.put];rfl) ?_ | refine AL.unguardS rfl rfl ?_ | refine AL.al hF rfl rfl rfl (by first | (simp only[Value.cells,List.map_cons,List.map_nil];rfl) | rfl) (fun b=>⟨_,(by simp only[AV.put];rfl),?_⟩) | refine AL.st1 hF rfl rfl rfl rfl (by simp only[evO,AV.get];rfl) (by first | exact qgN | exact qgO | exact qgP | exact qgQ | exact qgR | exact qgS | exact qgT | exact qgU) (by rfl) rfl (by rfl) (by first | (simp;done) | (simp;omega) | omega) (by simp only[List.set];rfl) ?_ | refine AL.stW hF rfl rfl rfl rfl (by simp only[evO,AV.get];rfl) (by first | exact qgN | exact qgO | exact qgP | exact qgQ | exact qgR | exact qgS | exact qgT | exact qgU) (by rfl) (by rfl) (by rfl) (by first | rfl | simp) (by simp only[List.set];rfl) ?_) | (with_reducible refine Awp.id_ ?_;first | refine Awp.seq ?_ | refine Awp.regionK (by first | (simp only[AV.putO,AV.put];rfl) | rfl) (fun K hK=>?_) | refine Awp.drawE (by first | (simp only[AV.putO,AV.put];rfl) | rfl) mixed rfl (by kernel_rfl) (fun K hK=>?_) | refine Awp.block ?_ | refine Awp.skip ?_ | refine Awp.exit ?_ | refine Awp.ret ?_ | refine Awp.condT rfl ?_ | refine Awp.condF rfl ?_) | refine qiC ?_ | refine qiD ?_ | refine qiE ?_ | refine qgi ?_ | refine qgj ?_ | refine qgk ?_ | refine qgl rfl ?_ | ((first | ((first | with_reducible refine AL.id_ ?_ | with_reducible refine AE.id_ ?_);(fail_if_success refine W.on rfl ?_);refine W.p rfl rfl (by simp only[AV.put];rfl) (by simp only[AV.put];rfl) (fun hb=>?_) (fun hb=>?_)) | (with_reducible refine Awp.id_ ?_;refine Awp.cond _ rfl (fun hb=>?_) (fun hb=>?_)))<;>(try simp only[z1,z2,z3,z4,z5,z6,z7,z8,y5,y6,y7,y8,z9,x1,x2,x3,x4,x5,x6,x7,x8] at hb;try (exfalso;omega)))))
  exact quC rfl ⟨X',.inl (by rw[show ss.length=k by omega];exact List.mem_of_getElem? (i:=1) rfl)⟩
def qqO:Itr Tryz.prog:=⟨183,[T91],[T158],fun x=>qpE x.1.2.2.2.2,fun x l h=>qvp x l h⟩
section
def qjD(n:Nat):CL Tryz.prog:=⟨[],[],0,fun _=>false⟩
def qmG(n:Nat):Nat→St→PT (DEx×St):=fun _ _=>.fail
theorem qrS(n:Nat):qJ (qjD n).c (qo Tryz.f152) 0=[]:=by kernel_rfl
theorem qrT:Tryz.f152.body=some (qo Tryz.f152):=by kernel_rfl
abbrev qkr:List Ar:=[.d T91]
abbrev qid:List Ty:=[T91]
def qrU(n:Nat)(x:qdB qkr):Option (qA qid):=(qdi tab (qjD n) (qmG n) (qo Tryz.f152) 0 (qgz qkr 4 x)).run (qvP 2 183 qid)
def qnw(n:Nat):Ct Tryz.prog:=⟨152,qkr,.fb 183 qid,qrU n,fun _ _ h=>qww (B:=tab) (cs:=qjD n) (lo:=qmG n) (i:=2) (g:=183) (caps:=qid) Tryz.func152 (by kernel_rfl) qrT (by kernel_rfl) (qgo (qrS n) qdH) h⟩
def qlA(n:Nat):CL Tryz.prog:=⟨[],[],0,nof⟩
def qmu(n:Nat):Cw Tryz.prog:=mkW tab (qlA n) [] Tryz.func182 [.v (.t 1) T158,.obj (.t 0) true 129 5,.v (.c 0 0) T126,.row (.c 0 2) true T91 91,.row (.c 0 3) true T91 91,.mpi (.c 0 4) true T158 T3] 2 [[.v (.t 0) T3,.obj (.t 1) true 129 5,.v (.c 0 0) T126,.row (.c 0 2) true T91 91,.row (.c 0 3) true T91 91,.mpi (.c 0 4) true T158 T3]] (by kernel_rfl)
def qhA(n:Nat):CL Tryz.prog:=⟨[qnw n],[qmu n],0,nof⟩
def qk8(n:Nat):LK Tryz.prog false:=mkG tab (qhA n) [] Tryz.f151 [true,false,true,false] 0 9 [10] qqO [.obj (.t 0) true 129 5,.v (.c 0 0) T126,.row (.c 0 2) true T91 91,.row (.c 0 3) true T91 91,.mpi (.c 0 4) true T158 T3,.obj (.t 2) false 121 1,.pal (.c 4 0) 0 0,.obj (.t 3) false 91 5,.v (.c 5 0) T91,.obj (.t 4) false 158 2,.v (.c 6 0) T158,.obj (.t 5) false 3 1,.v (.c 7 0) T3] [(.ret,[.obj (.t 0) true 129 5,.v (.c 0 0) T126,.row (.c 0 2) true T91 91,.row (.c 0 3) true T91 91,.mpi (.c 0 4) true T158 T3,.obj (.t 4) false 158 2,.v (.c 4 0) T158,.obj (.t 5) false 3 1,.v (.c 5 0) T3])] (by kernel_rfl)
def qlB(n:Nat):Cw Tryz.prog:=mkW tab (qhA n) [qk8 n] Tryz.func151 [.v (.t 1) T91,.obj (.t 0) true 129 5,.v (.c 0 0) T126,.row (.c 0 2) true T91 91,.row (.c 0 3) true T91 91,.mpi (.c 0 4) true T158 T3] 2 [[.v (.t 0) T158,.v (.t 1) T3,.obj (.t 2) true 129 5,.v (.c 0 0) T126,.row (.c 0 2) true T91 91,.row (.c 0 3) true T91 91,.mpi (.c 0 4) true T158 T3]] (by kernel_rfl)
def qgL(n:Nat):CL Tryz.prog:=⟨[qnw n],[qlB n],0,nof⟩
def qmN(n:Nat):LK Tryz.prog false:=mkG tab (qgL n) [] Tryz.f120 [true,true,false,true,false,false,true,true,false,false,true,true,true,true,true,false] 1 60 [61] qqO [.nilf (.t 2),.v (.t 17) T35,.v (.t 18) T3,.v (.t 19) T3,.obj (.t 7) false 121 1,.obj (.c 0 0) false 129 5,.v (.c 1 0) T126,.row (.c 1 2) false T91 91,.row (.c 1 3) false T91 91,.mpi (.c 1 4) false T158 T3,.obj (.t 9) false 91 5,.v (.c 5 0) T91] [] (by kernel_rfl)
def qmO(n:Nat):LK Tryz.prog false:=mkL tab (qgL n) [qmN n] Tryz.f120 [true,true,false,true,false,false] 0 n [.nilf (.t 2),.v (.t 17) T35,.v (.t 18) T3,.v (.t 19) T3,.obj (.t 7) false 121 1,.obj (.c 0 0) false 129 5,.v (.c 1 0) T126,.row (.c 1 2) false T91 91,.row (.c 1 3) false T91 91,.mpi (.c 1 4) false T158 T3] [(.exit 0,[.obj (.t 7) false 121 1,.obj (.c 0 0) false 129 5,.v (.c 1 0) T126,.row (.c 1 2) false T91 91,.row (.c 1 3) false T91 91,.mpi (.c 1 4) false T158 T3])] (by kernel_rfl)
def qnx(n:Nat):Cw Tryz.prog:=mkW tab (qgL n) [qmO n] Tryz.func120 [.v (.t 0) T126,.v (.t 1) T35,.nilf (.t 2)] 3 [[.obj (.t 0) false 129 5,.v (.c 0 0) T126,.row (.c 0 2) false T91 91,.row (.c 0 3) false T91 91,.mpi (.c 0 4) false T158 T3]] (by kernel_rfl)
def qqV(n:Nat):CL Tryz.prog:=⟨[],[qkp n,qfP n,qjC n,qcZ n,qc0 n],1,nof⟩
def qrV(n:Nat):Ct Tryz.prog:=mkC tab (qqV n) [] Tryz.func121 [.d T35] [T35] (by kernel_rfl)
def qpG(n:Nat):CL Tryz.prog:=⟨[qkn n,qjm n],[],0,nof⟩
def qlC(n:Nat):Cw Tryz.prog:=mkW tab (qpG n) [] Tryz.func117 [.v (.t 0) T158,.obj (.t 1) true 126 2,.v (.c 0 0) T126] 2 [[.v (.t 0) T4,.obj (.t 1) true 126 2,.v (.c 0 0) T126]] (by kernel_rfl)
def qdb(n:Nat):CL Tryz.prog:=⟨[],[qlC n],0,nof⟩
def qge(n:Nat):LK Tryz.prog false:=mkL tab (qdb n) [] Tryz.f150 [true,false,true,false,false] 0 n [.v (.t 0) T155,.v (.t 7) T3,.v (.t 8) T3,.fnc (.t 1) 117 [.box true 126 2],.v (.c 0 0) T126] [(.exit 0,[.fnc (.t 1) 117 [.box true 126 2],.v (.c 0 0) T126]),(.ret,[.v (.t 4) T3,.fnc (.t 1) 117 [.box true 126 2],.v (.c 0 0) T126])] (by kernel_rfl)
def qgp(n:Nat):Cw Tryz.prog:=mkW tab (qdb n) [qge n] Tryz.func150 [.v (.t 0) T155,.fnc (.t 1) 117 [.box true 126 2],.v (.c 0 0) T126] 2 [[.v (.t 0) T3,.obj (.t 1) true 126 2,.v (.c 0 0) T126]] (by kernel_rfl)
def qfQ(n:Nat):CL Tryz.prog:=⟨[],[qlC n,qgp n],0,nof⟩
def qf0(n:Nat):Cw Tryz.prog:=mkW tab (qfQ n) [] Tryz.func116 [.v (.t 0) T155,.fnc (.t 1) 117 [.box true 126 2],.v (.c 0 0) T126] 2 [[.v (.t 0) T4,.obj (.t 1) true 126 2,.v (.c 0 0) T126]] (by kernel_rfl)
def qqW(n:Nat):CL Tryz.prog:=⟨[qkq n,qrV n],[qf0 n,qnx n],4,nof⟩
def qrW(n:Nat):Cw Tryz.prog:=mkW tab (qqW n) [] Tryz.func77 [.v (.t 0) T34,.v (.t 1) T35,.v (.t 2) T155] 3 [[.v (.t 1) T24,.obj (.t 0) false 129 5,.v (.c 0 0) T126,.row (.c 0 2) false T91 91,.row (.c 0 3) false T91 91,.mpi (.c 0 4) false T158 T3],[.nilp (.t 0),.v (.t 1) T24]] (by kernel_rfl)
def qoQ(n:Nat):CL Tryz.prog:=⟨[],[qrW n,qsh n,qnv n],4,nof⟩
def qkX(n:Nat):Ct Tryz.prog:=mkC tab (qoQ n) [] Tryz.func36 [.d T34,.d T35] [T22,T24] (by kernel_rfl)
end
section
end
end
end Go.Proofs.YtlmicgmhallkkaaGreatDoor
