/- Printed: what functions of the program compute. -/
import Derived.Test.YtklkodbibffohaaGreatDnC
set_option linter.constructorNameAsVariable false
set_option linter.unusedSimpArgs false
set_option linter.unusedVariables false
set_option linter.unusedSectionVars false
namespace Go.Proofs.YtklkodbibffohaaGreat
open Go Go.Proofs Go.RowKit
set_option maxRecDepth 20000
noncomputable def qlO(n:Nat):CL Tryz.prog:=⟨[],[],0,fun _=>false⟩
noncomputable def qrl(n:Nat):Nat→St→PT (DEx×St):=fun _ _=>.fail
theorem qBv(n:Nat):qc (qlO n).c (qa Tryz.f138) 0=[]:=by kernel_rfl
theorem qBw:Tryz.f138.body=some (qa Tryz.f138):=by kernel_rfl
abbrev qlP:List It:=[.raw (.t 0),.v (.t 1) T3]
abbrev qlq:List (List It):=[[.row (.t 0) false T44 44]]
noncomputable def qB(n:Nat)(x:qb qlP):Option (qm qlq):=runW tab (qlO n) (qrl n) (qa Tryz.f138) qlP 2 27 [.tmp 4] qlq x
noncomputable def qBx(n:Nat):Cw Tryz.prog:=⟨138,2,qlP,1,qlq,qB n,fun _ _ h=>qz (B:=tab) (cs:=qlO n) (lo:=qrl n) (rs:=[.tmp 4]) Tryz.func138 (by kernel_rfl) qBw (by kernel_rfl) (by decide) (qf (qBv n) all_nil) h⟩
noncomputable def qbY(n:Nat):CL Tryz.prog:=⟨[],[qBx n],1,fun _=>false⟩
noncomputable def qso(n:Nat):Nat→St→PT (DEx×St):=fun _ _=>.fail
abbrev qgC:List It:=[.v (.t 0) T149,.v (.t 3) T3,.v (.t 9) T149,.v (.t 10) T3,.v (.t 11) T3]
abbrev qjr:List (DEx×List It):=[(.exit 0,[.v (.t 0) T149,.v (.t 3) T3])]
noncomputable def qta(n:Nat)(rec:qb qgC→Option (qg qjr))(s:qb qgC):Option (qg qjr):=(qh tab (qbY n) (qso n) (subC [true,true,false,true,false,false] (qa Tryz.f121)) 1 (mkS qgC 36 s)).run (Lp.leaf 36 qgC qjr rec)
noncomputable def qmL(n:Nat):Lp:=⟨36,qgC,qjr,qe n (qta n)⟩
theorem qCh(n:Nat):qc (qbY n).c (subC [true,true,false,true,false,false] (qa Tryz.f121)) 1=[]:=by kernel_rfl
theorem qAf(n:Nat)(st:St)(r:DEx×St)(h:((qmL n).go st).Is r):DA Tryz.prog false (.loop (subC [true,true,false,true,false,false] (qa Tryz.f121))) st r:=Lp.ok (L:=qmL n) (B:=tab) (cs:=qbY n) (lo:=qso n) (id:=0) rfl (qf (qCh n) all_nil) (fun _ _=>rfl) h
noncomputable def qsp(n:Nat):Nat→St→PT (DEx×St):=fun _ _=>.fail
abbrev qgD:List It:=[.v (.t 25) T149,.v (.t 26) T3,.v (.t 27) T3,.row (.t 6) false T44 44]
abbrev qjs:List (DEx×List It):=[(.exit 2,[.row (.t 6) false T44 44])]
noncomputable def qtb(n:Nat)(rec:qb qgD→Option (qg qjs))(s:qb qgD):Option (qg qjs):=(qh tab (qbY n) (qsp n) (subC [true,true,true,true,false,true,false,false] (qa Tryz.f121)) 2 (mkS qgD 36 s)).run (Lp.leaf 36 qgD qjs rec)
noncomputable def qmM(n:Nat):Lp:=⟨36,qgD,qjs,qe n (qtb n)⟩
theorem qCi(n:Nat):qc (qbY n).c (subC [true,true,true,true,false,true,false,false] (qa Tryz.f121)) 2=[]:=by kernel_rfl
theorem qAg(n:Nat)(st:St)(r:DEx×St)(h:((qmM n).go st).Is r):DA Tryz.prog false (.loop (subC [true,true,true,true,false,true,false,false] (qa Tryz.f121))) st r:=Lp.ok (L:=qmM n) (B:=tab) (cs:=qbY n) (lo:=qsp n) (id:=1) rfl (qf (qCi n) all_nil) (fun _ _=>rfl) h
noncomputable def qtc(n:Nat):Nat→St→PT (DEx×St):=fun k st=>match k with
 | 0=>(qmL n).go st
 | 1=>(qmM n).go st
 | _=>.fail
theorem qC9(n:Nat):qc (qbY n).c (qa Tryz.f121) 0=[(0,.loop (subC [true,true,false,true,false,false] (qa Tryz.f121))),(1,.loop (subC [true,true,true,true,false,true,false,false] (qa Tryz.f121)))]:=by kernel_rfl
theorem qDa:Tryz.f121.body=some (qa Tryz.f121):=by kernel_rfl
abbrev qmN:List It:=[.v (.t 0) T149]
abbrev qmf:List (List It):=[[.row (.t 0) false T44 44]]
noncomputable def qt3(n:Nat)(x:qb qmN):Option (qm qmf):=runW tab (qbY n) (qtc n) (qa Tryz.f121) qmN 1 36 [.tmp 2] qmf x
noncomputable def qDb(n:Nat):Cw Tryz.prog:=⟨121,1,qmN,1,qmf,qt3 n,fun _ _ h=>qz (B:=tab) (cs:=qbY n) (lo:=qtc n) (rs:=[.tmp 2]) Tryz.func121 (by kernel_rfl) qDa (by kernel_rfl) (by decide) (qf (qC9 n) (all_cons (fun st r h=>qAf n st r h) (all_cons (fun st r h=>qAg n st r h) all_nil))) h⟩
abbrev qG:List It:=[.v (.t 1) T3,.v (.t 2) T3,.v (.t 3) T3,.fn (.t 4) 122 [] [],.row (.t 0) true T44 44]
abbrev qE:List (List It):=[[.row (.t 0) true T44 44]]
abbrev qi:Type:={g:qb qG→Option (qm qE) // qMi Tryz.prog 125 5 qG 0 qE g}
noncomputable def qbc(n:Nat)(g:qi):CL Tryz.prog:=⟨[qxs n],[qhk n,qhm n,⟨125,5,qG,0,qE,g.1,g.2⟩],0,fun _=>false⟩
noncomputable def qij(n:Nat)(g:qi):Nat→St→PT (DEx×St):=fun _ _=>.fail
abbrev qbQ:List It:=[.v (.t 1) T3,.v (.t 2) T3,.v (.t 3) T3,.fn (.t 4) 122 [] [],.v (.t 10) T4,.v (.t 11) T4,.row (.t 0) true T44 44]
abbrev qcJ:List (DEx×List It):=[(.ret,[.row (.t 0) true T44 44])]
noncomputable def qiF(n:Nat)(g:qi)(rec:qb qbQ→Option (qg qcJ))(s:qb qbQ):Option (qg qcJ):=(qh tab (qbc n g) (qij n g) (subC [true,true,false,false] (qa Tryz.f125)) 1 (mkS qbQ 148 s)).run (Lp.leaf 148 qbQ qcJ rec)
noncomputable def qeY(n:Nat)(g:qi):Lp:=⟨148,qbQ,qcJ,qe n (qiF n g)⟩
theorem qpC(n:Nat)(g:qi):qc (qbc n g).c (subC [true,true,false,false] (qa Tryz.f125)) 1=[]:=by kernel_rfl
theorem qoi(n:Nat)(g:qi)(st:St)(r:DEx×St)(h:((qeY n g).go st).Is r):DA Tryz.prog false (.loop (subC [true,true,false,false] (qa Tryz.f125))) st r:=Lp.ok (L:=qeY n g) (B:=tab) (cs:=qbc n g) (lo:=qij n g) (id:=0) rfl (qf (qpC n g) all_nil) (fun _ _=>rfl) h
noncomputable def qiG(n:Nat)(g:qi):Nat→St→PT (DEx×St):=fun k st=>match k with
 | 0=>(qeY n g).go st
 | _=>.fail
theorem qpX(n:Nat)(g:qi):qc (qbc n g).c (qa Tryz.f125) 0=[(0,.loop (subC [true,true,false,false] (qa Tryz.f125)))]:=by kernel_rfl
theorem qpY:Tryz.f125.body=some (qa Tryz.f125):=by kernel_rfl
noncomputable def qeZ(n:Nat)(g:qi)(x:qb qG):Option (qm qE):=runW tab (qbc n g) (qiG n g) (qa Tryz.f125) qG 5 148 [] qE x
theorem qpD(n:Nat)(g:qi):qMi Tryz.prog 125 5 qG 0 qE (qeZ n g):=fun _ _ h=>qz (B:=tab) (cs:=qbc n g) (lo:=qiG n g) (rs:=[]) Tryz.func125 (by kernel_rfl) qpY (by kernel_rfl) (by decide) (qf (qpX n g) (all_cons (fun st r h=>qoi n g st r h) all_nil)) h
noncomputable def qX(n:Nat):Nat→qi
 | 0=>⟨fun _=>none,fun _ _ h=>by cases h⟩
 | k+1=>⟨qeZ n (qX n k),qpD n (qX n k)⟩
noncomputable def qi5(n:Nat)(x:qb qG):Option (qm qE):=(qX n n).1 x
noncomputable def qi6(n:Nat):Cw Tryz.prog:=⟨125,5,qG,0,qE,qi5 n,(qX n n).2⟩
noncomputable def qgd(n:Nat):CL Tryz.prog:=⟨[qAB n,qxs n],[qi6 n],0,fun _=>false⟩
noncomputable def qkD(n:Nat):Nat→St→PT (DEx×St):=fun _ _=>.fail
theorem qtd(n:Nat):qc (qgd n).c (qa Tryz.f88) 0=[]:=by kernel_rfl
theorem qte:Tryz.f88.body=some (qa Tryz.f88):=by kernel_rfl
abbrev qge:List It:=[.fn (.t 1) 122 [] [],.row (.t 0) true T44 44]
abbrev qfR:List (List It):=[[.row (.t 0) true T44 44]]
noncomputable def qk3(n:Nat)(x:qb qge):Option (qm qfR):=runW tab (qgd n) (qkD n) (qa Tryz.f88) qge 2 14 [] qfR x
noncomputable def qk4(n:Nat):Cw Tryz.prog:=⟨88,2,qge,0,qfR,qk3 n,fun _ _ h=>qz (B:=tab) (cs:=qgd n) (lo:=qkD n) (rs:=[]) Tryz.func88 (by kernel_rfl) qte (by kernel_rfl) (by decide) (qf (qtd n) all_nil) h⟩
abbrev qH:List It:=[.v (.t 1) T3,.v (.t 2) T3,.v (.t 3) T3,.fn (.t 4) 89 [] [],.row (.t 0) true T44 44]
abbrev qF:List (List It):=[[.row (.t 0) true T44 44]]
abbrev qj:Type:={g:qb qH→Option (qm qF) // qMi Tryz.prog 125 5 qH 0 qF g}
noncomputable def qbd(n:Nat)(g:qj):CL Tryz.prog:=⟨[qCe n],[qhk n,qhm n,⟨125,5,qH,0,qF,g.1,g.2⟩],0,fun _=>false⟩
noncomputable def qik(n:Nat)(g:qj):Nat→St→PT (DEx×St):=fun _ _=>.fail
abbrev qbR:List It:=[.v (.t 1) T3,.v (.t 2) T3,.v (.t 3) T3,.fn (.t 4) 89 [] [],.v (.t 10) T4,.v (.t 11) T4,.row (.t 0) true T44 44]
abbrev qcK:List (DEx×List It):=[(.ret,[.row (.t 0) true T44 44])]
noncomputable def qiH(n:Nat)(g:qj)(rec:qb qbR→Option (qg qcK))(s:qb qbR):Option (qg qcK):=(qh tab (qbd n g) (qik n g) (subC [true,true,false,false] (qa Tryz.f125)) 1 (mkS qbR 148 s)).run (Lp.leaf 148 qbR qcK rec)
noncomputable def qe0(n:Nat)(g:qj):Lp:=⟨148,qbR,qcK,qe n (qiH n g)⟩
theorem qpE(n:Nat)(g:qj):qc (qbd n g).c (subC [true,true,false,false] (qa Tryz.f125)) 1=[]:=by kernel_rfl
theorem qoj(n:Nat)(g:qj)(st:St)(r:DEx×St)(h:((qe0 n g).go st).Is r):DA Tryz.prog false (.loop (subC [true,true,false,false] (qa Tryz.f125))) st r:=Lp.ok (L:=qe0 n g) (B:=tab) (cs:=qbd n g) (lo:=qik n g) (id:=0) rfl (qf (qpE n g) all_nil) (fun _ _=>rfl) h
noncomputable def qiI(n:Nat)(g:qj):Nat→St→PT (DEx×St):=fun k st=>match k with
 | 0=>(qe0 n g).go st
 | _=>.fail
theorem qpZ(n:Nat)(g:qj):qc (qbd n g).c (qa Tryz.f125) 0=[(0,.loop (subC [true,true,false,false] (qa Tryz.f125)))]:=by kernel_rfl
theorem qp0:Tryz.f125.body=some (qa Tryz.f125):=by kernel_rfl
noncomputable def qe1(n:Nat)(g:qj)(x:qb qH):Option (qm qF):=runW tab (qbd n g) (qiI n g) (qa Tryz.f125) qH 5 148 [] qF x
theorem qpF(n:Nat)(g:qj):qMi Tryz.prog 125 5 qH 0 qF (qe1 n g):=fun _ _ h=>qz (B:=tab) (cs:=qbd n g) (lo:=qiI n g) (rs:=[]) Tryz.func125 (by kernel_rfl) qp0 (by kernel_rfl) (by decide) (qf (qpZ n g) (all_cons (fun st r h=>qoj n g st r h) all_nil)) h
noncomputable def qY(n:Nat):Nat→qj
 | 0=>⟨fun _=>none,fun _ _ h=>by cases h⟩
 | k+1=>⟨qe1 n (qY n k),qpF n (qY n k)⟩
noncomputable def qi7(n:Nat)(x:qb qH):Option (qm qF):=(qY n n).1 x
noncomputable def qp1(n:Nat):Cw Tryz.prog:=⟨125,5,qH,0,qF,qi7 n,(qY n n).2⟩
noncomputable def qgf(n:Nat):CL Tryz.prog:=⟨[qAB n,qCe n],[qi6 n,qp1 n],0,fun _=>false⟩
noncomputable def qkE(n:Nat):Nat→St→PT (DEx×St):=fun _ _=>.fail
theorem qtf(n:Nat):qc (qgf n).c (qa Tryz.f88) 0=[]:=by kernel_rfl
theorem qtg:Tryz.f88.body=some (qa Tryz.f88):=by kernel_rfl
abbrev qgg:List It:=[.fn (.t 1) 89 [] [],.row (.t 0) true T44 44]
abbrev qfS:List (List It):=[[.row (.t 0) true T44 44]]
noncomputable def qk5(n:Nat)(x:qb qgg):Option (qm qfS):=runW tab (qgf n) (qkE n) (qa Tryz.f88) qgg 2 14 [] qfS x
noncomputable def qk6(n:Nat):Cw Tryz.prog:=⟨88,2,qgg,0,qfS,qk5 n,fun _ _ h=>qz (B:=tab) (cs:=qgf n) (lo:=qkE n) (rs:=[]) Tryz.func88 (by kernel_rfl) qtg (by kernel_rfl) (by decide) (qf (qtf n) all_nil) h⟩
noncomputable def qv(n:Nat):CL Tryz.prog:=⟨[qMC n],[],0,fun _=>false⟩
noncomputable def qil(n:Nat):Nat→St→PT (DEx×St):=fun _ _=>.fail
abbrev qbS:List It:=[.fn (.t 1) 124 [] [],.v (.t 5) T3,.v (.t 7) T3,.row (.t 0) true T44 44,.sub (.t 6) 0]
abbrev qcL:List (DEx×List It):=[(.exit 2,[.v (.t 5) T3,.row (.t 0) true T44 44])]
noncomputable def qiJ(n:Nat)(rec:qb qbS→Option (qg qcL))(s:qb qbS):Option (qg qcL):=(qh tab (qv n) (qil n) (subC [true,true,false,true,false,false,true,false,false,true,false,true,false,true,false,false] (qa Tryz.f123)) 2 (mkS qbS 66 s)).run (Lp.leaf 66 qbS qcL rec)
noncomputable def qe2(n:Nat):Lp:=⟨66,qbS,qcL,qe n (qiJ n)⟩
theorem qpG(n:Nat):qc (qv n).c (subC [true,true,false,true,false,false,true,false,false,true,false,true,false,true,false,false] (qa Tryz.f123)) 2=[]:=by kernel_rfl
theorem qok(n:Nat)(st:St)(r:DEx×St)(h:((qe2 n).go st).Is r):DA Tryz.prog false (.loop (subC [true,true,false,true,false,false,true,false,false,true,false,true,false,true,false,false] (qa Tryz.f123))) st r:=Lp.ok (L:=qe2 n) (B:=tab) (cs:=qv n) (lo:=qil n) (id:=1) rfl (qf (qpG n) all_nil) (fun _ _=>rfl) h
noncomputable def qim(n:Nat):Nat→St→PT (DEx×St):=fun k st=>match k with
 | 1=>(qe2 n).go st
 | _=>.fail
abbrev qbT:List It:=[.fn (.t 1) 124 [] [],.v (.t 5) T3,.row (.t 0) true T44 44]
abbrev qcM:List (DEx×List It):=[(.exit 0,[.row (.t 0) true T44 44]),(.ret,[.row (.t 0) true T44 44,.sub (.t 4) 0])]
noncomputable def qiK(n:Nat)(rec:qb qbT→Option (qg qcM))(s:qb qbT):Option (qg qcM):=(qh tab (qv n) (qim n) (subC [true,true,false,true,false,false] (qa Tryz.f123)) 1 (mkS qbT 66 s)).run (Lp.leaf 66 qbT qcM rec)
noncomputable def qe3(n:Nat):Lp:=⟨66,qbT,qcM,qe n (qiK n)⟩
theorem qpH(n:Nat):qc (qv n).c (subC [true,true,false,true,false,false] (qa Tryz.f123)) 1=[(1,.loop (subC [true,true,false,true,false,false,true,false,false,true,false,true,false,true,false,false] (qa Tryz.f123)))]:=by kernel_rfl
theorem qol(n:Nat)(st:St)(r:DEx×St)(h:((qe3 n).go st).Is r):DA Tryz.prog false (.loop (subC [true,true,false,true,false,false] (qa Tryz.f123))) st r:=Lp.ok (L:=qe3 n) (B:=tab) (cs:=qv n) (lo:=qim n) (id:=0) rfl (qf (qpH n) (all_cons (fun st r h=>qok n st r h) all_nil)) (fun _ _=>rfl) h
noncomputable def qiL(n:Nat):Nat→St→PT (DEx×St):=fun k st=>match k with
 | 0=>(qe3 n).go st
 | _=>.fail
theorem qp2(n:Nat):qc (qv n).c (qa Tryz.f123) 0=[(0,.loop (subC [true,true,false,true,false,false] (qa Tryz.f123)))]:=by kernel_rfl
theorem qp3:Tryz.f123.body=some (qa Tryz.f123):=by kernel_rfl
abbrev qe4:List It:=[.fn (.t 1) 124 [] [],.row (.t 0) true T44 44]
abbrev qeN:List (List It):=[[.row (.t 1) true T44 44,.sub (.t 0) 0]]
noncomputable def qi8(n:Nat)(x:qb qe4):Option (qm qeN):=runW tab (qv n) (qiL n) (qa Tryz.f123) qe4 2 66 [.tmp 4] qeN x
noncomputable def qp4(n:Nat):Cw Tryz.prog:=⟨123,2,qe4,1,qeN,qi8 n,fun _ _ h=>qz (B:=tab) (cs:=qv n) (lo:=qiL n) (rs:=[.tmp 4]) Tryz.func123 (by kernel_rfl) qp3 (by kernel_rfl) (by decide) (qf (qp2 n) (all_cons (fun st r h=>qol n st r h) all_nil)) h⟩
noncomputable def qbf(n:Nat):CL Tryz.prog:=⟨[],[qG2 n],0,fun _=>false⟩
noncomputable def qiM(n:Nat):Nat→St→PT (DEx×St):=fun _ _=>.fail
abbrev qbW:List It:=[.v (.t 7) T3,.v (.t 8) T3,.row (.t 0) true T44 44,.fnc (.t 1) 85 [.box true 25 1],.v (.c 1 0) T25]
abbrev qcR:List (DEx×List It):=[(.exit 0,[.row (.t 0) true T44 44,.fnc (.t 1) 85 [.box true 25 1],.v (.c 1 0) T25]),(.ret,[.v (.t 4) T3,.row (.t 0) true T44 44,.fnc (.t 1) 85 [.box true 25 1],.v (.c 1 0) T25])]
noncomputable def qi9(n:Nat)(rec:qb qbW→Option (qg qcR))(s:qb qbW):Option (qg qcR):=(qh tab (qbf n) (qiM n) (subC [true,false,true,false,false] (qa Tryz.f23)) 1 (mkS qbW 19 s)).run (Lp.leaf 19 qbW qcR rec)
noncomputable def qff(n:Nat):Lp:=⟨19,qbW,qcR,qe n (qi9 n)⟩
theorem qp5(n:Nat):qc (qbf n).c (subC [true,false,true,false,false] (qa Tryz.f23)) 1=[]:=by kernel_rfl
theorem qoH(n:Nat)(st:St)(r:DEx×St)(h:((qff n).go st).Is r):DA Tryz.prog false (.loop (subC [true,false,true,false,false] (qa Tryz.f23))) st r:=Lp.ok (L:=qff n) (B:=tab) (cs:=qbf n) (lo:=qiM n) (id:=0) rfl (qf (qp5 n) all_nil) (fun _ _=>rfl) h
noncomputable def qja(n:Nat):Nat→St→PT (DEx×St):=fun k st=>match k with
 | 0=>(qff n).go st
 | _=>.fail
theorem qqE(n:Nat):qc (qbf n).c (qa Tryz.f23) 0=[(0,.loop (subC [true,false,true,false,false] (qa Tryz.f23)))]:=by kernel_rfl
theorem qqF:Tryz.f23.body=some (qa Tryz.f23):=by kernel_rfl
abbrev qfg:List It:=[.row (.t 0) true T44 44,.fnc (.t 1) 85 [.box true 25 1],.v (.c 1 0) T25]
abbrev qe5:List (List It):=[[.v (.t 0) T3,.row (.t 1) true T44 44,.obj (.t 2) true 25 1,.v (.c 1 0) T25]]
noncomputable def qjl(n:Nat)(x:qb qfg):Option (qm qe5):=runW tab (qbf n) (qja n) (qa Tryz.f23) qfg 2 19 [.tmp 4] qe5 x
noncomputable def qc9(n:Nat):Cw Tryz.prog:=⟨23,2,qfg,1,qe5,qjl n,fun _ _ h=>qz (B:=tab) (cs:=qbf n) (lo:=qja n) (rs:=[.tmp 4]) Tryz.func23 (by kernel_rfl) qqF (by kernel_rfl) (by decide) (qf (qqE n) (all_cons (fun st r h=>qoH n st r h) all_nil)) h⟩
noncomputable def qbD(n:Nat):CL Tryz.prog:=⟨[],[qc9 n,qce n,qG2 n],0,fun _=>false⟩
noncomputable def qjF(n:Nat):Nat→St→PT (DEx×St):=fun _ _=>.fail
abbrev qcf:List It:=[.v (.t 5) T3,.v (.t 6) T3,.row (.t 0) true T44 44,.fnc (.t 1) 85 [.box true 25 1],.v (.c 1 0) T25]
abbrev qdo:List (DEx×List It):=[(.exit 0,[.v (.t 5) T3,.row (.t 0) true T44 44,.fnc (.t 1) 85 [.box true 25 1],.v (.c 1 0) T25])]
noncomputable def qj1(n:Nat)(rec:qb qcf→Option (qg qdo))(s:qb qcf):Option (qg qdo):=(qh tab (qbD n) (qjF n) (subC [true,true,true,false,true,false,false] (qa Tryz.f83)) 1 (mkS qcf 42 s)).run (Lp.leaf 42 qcf qdo rec)
noncomputable def qfz(n:Nat):Lp:=⟨42,qcf,qdo,qe n (qj1 n)⟩
theorem qrm(n:Nat):qc (qbD n).c (subC [true,true,true,false,true,false,false] (qa Tryz.f83)) 1=[]:=by kernel_rfl
theorem qp6(n:Nat)(st:St)(r:DEx×St)(h:((qfz n).go st).Is r):DA Tryz.prog false (.loop (subC [true,true,true,false,true,false,false] (qa Tryz.f83))) st r:=Lp.ok (L:=qfz n) (B:=tab) (cs:=qbD n) (lo:=qjF n) (id:=0) rfl (qf (qrm n) all_nil) (fun _ _=>rfl) h
noncomputable def qj2(n:Nat):Nat→St→PT (DEx×St):=fun k st=>match k with
 | 0=>(qfz n).go st
 | _=>.fail
theorem qrX(n:Nat):qc (qbD n).c (qa Tryz.f83) 0=[(0,.loop (subC [true,true,true,false,true,false,false] (qa Tryz.f83)))]:=by kernel_rfl
theorem qrY:Tryz.f83.body=some (qa Tryz.f83):=by kernel_rfl
abbrev qfA:List It:=[.row (.t 0) true T44 44,.fnc (.t 1) 85 [.box true 25 1],.v (.c 1 0) T25]
abbrev qft:List (List It):=[[.row (.t 1) true T44 44,.obj (.t 2) true 25 1,.v (.c 1 0) T25,.sub (.t 0) 0]]
noncomputable def qkf(n:Nat)(x:qb qfA):Option (qm qft):=runW tab (qbD n) (qj2 n) (qa Tryz.f83) qfA 2 42 [.tmp 4] qft x
noncomputable def qrZ(n:Nat):Cw Tryz.prog:=⟨83,2,qfA,1,qft,qkf n,fun _ _ h=>qz (B:=tab) (cs:=qbD n) (lo:=qj2 n) (rs:=[.tmp 4]) Tryz.func83 (by kernel_rfl) qrY (by kernel_rfl) (by decide) (qf (qrX n) (all_cons (fun st r h=>qp6 n st r h) all_nil)) h⟩
abbrev qcq:List It:=[.v (.t 1) T3,.v (.t 2) T3,.v (.t 3) T3,.row (.t 0) true T3 3]
abbrev qcg:List (List It):=[[.row (.t 0) true T3 3]]
abbrev qK:Type:={g:qb qcq→Option (qm qcg) // qMi Tryz.prog 52 4 qcq 0 qcg g}
noncomputable def qeJ(n:Nat)(g:qK):CL Tryz.prog:=⟨[qIh n],[qxW n,⟨52,4,qcq,0,qcg,g.1,g.2⟩],0,fun _=>false⟩
noncomputable def qrn(n:Nat)(g:qK):Nat→St→PT (DEx×St):=fun _ _=>.fail
abbrev qf6:List It:=[.v (.t 1) T3,.v (.t 2) T3,.v (.t 3) T3,.v (.t 8) T4,.v (.t 9) T4,.row (.t 0) true T3 3]
abbrev qiW:List (DEx×List It):=[(.ret,[.row (.t 0) true T3 3])]
noncomputable def qsq(n:Nat)(g:qK)(rec:qb qf6→Option (qg qiW))(s:qb qf6):Option (qg qiW):=(qh tab (qeJ n g) (qrn n g) (subC [true,true,false,false] (qa Tryz.f52)) 1 (mkS qf6 134 s)).run (Lp.leaf 134 qf6 qiW rec)
noncomputable def qmg(n:Nat)(g:qK):Lp:=⟨134,qf6,qiW,qe n (qsq n g)⟩
theorem qBy(n:Nat)(g:qK):qc (qeJ n g).c (subC [true,true,false,false] (qa Tryz.f52)) 1=[]:=by kernel_rfl
theorem qze(n:Nat)(g:qK)(st:St)(r:DEx×St)(h:((qmg n g).go st).Is r):DA Tryz.prog false (.loop (subC [true,true,false,false] (qa Tryz.f52))) st r:=Lp.ok (L:=qmg n g) (B:=tab) (cs:=qeJ n g) (lo:=qrn n g) (id:=0) rfl (qf (qBy n g) all_nil) (fun _ _=>rfl) h
noncomputable def qsr(n:Nat)(g:qK):Nat→St→PT (DEx×St):=fun k st=>match k with
 | 0=>(qmg n g).go st
 | _=>.fail
theorem qCj(n:Nat)(g:qK):qc (qeJ n g).c (qa Tryz.f52) 0=[(0,.loop (subC [true,true,false,false] (qa Tryz.f52)))]:=by kernel_rfl
theorem qCk:Tryz.f52.body=some (qa Tryz.f52):=by kernel_rfl
noncomputable def qmh(n:Nat)(g:qK)(x:qb qcq):Option (qm qcg):=runW tab (qeJ n g) (qsr n g) (qa Tryz.f52) qcq 4 134 [] qcg x
theorem qBz(n:Nat)(g:qK):qMi Tryz.prog 52 4 qcq 0 qcg (qmh n g):=fun _ _ h=>qz (B:=tab) (cs:=qeJ n g) (lo:=qsr n g) (rs:=[]) Tryz.func52 (by kernel_rfl) qCk (by kernel_rfl) (by decide) (qf (qCj n g) (all_cons (fun st r h=>qze n g st r h) all_nil)) h
noncomputable def qdt(n:Nat):Nat→qK
 | 0=>⟨fun _=>none,fun _ _ h=>by cases h⟩
 | k+1=>⟨qmh n (qdt n k),qBz n (qdt n k)⟩
noncomputable def qth(n:Nat)(x:qb qcq):Option (qm qcg):=(qdt n n).1 x
noncomputable def qCl(n:Nat):Cw Tryz.prog:=⟨52,4,qcq,0,qcg,qth n,(qdt n n).2⟩
noncomputable def qvo(n:Nat):CL Tryz.prog:=⟨[qAB n],[qCl n],0,fun _=>false⟩
noncomputable def qBI(n:Nat):Nat→St→PT (DEx×St):=fun _ _=>.fail
theorem qLA(n:Nat):qc (qvo n).c (qa Tryz.f33) 0=[]:=by kernel_rfl
theorem qLB:Tryz.f33.body=some (qa Tryz.f33):=by kernel_rfl
abbrev qvp:List It:=[.row (.t 0) true T3 3]
abbrev qut:List (List It):=[[.row (.t 0) true T3 3]]
noncomputable def qDc(n:Nat)(x:qb qvp):Option (qm qut):=runW tab (qvo n) (qBI n) (qa Tryz.f33) qvp 1 11 [] qut x
noncomputable def qLC(n:Nat):Cw Tryz.prog:=⟨33,1,qvp,0,qut,qDc n,fun _ _ h=>qz (B:=tab) (cs:=qvo n) (lo:=qBI n) (rs:=[]) Tryz.func33 (by kernel_rfl) qLB (by kernel_rfl) (by decide) (qf (qLA n) all_nil) h⟩
noncomputable def qx6(n:Nat):CL Tryz.prog:=⟨[],[qk4 n,qk6 n,qDb n,qp4 n],1,fun _=>false⟩
noncomputable def qEc(n:Nat):Nat→St→PT (DEx×St):=fun _ _=>.fail
theorem qNz(n:Nat):qc (qx6 n).c (qa Tryz.f82) 0=[]:=by kernel_rfl
theorem qNA:Tryz.f82.body=some (qa Tryz.f82):=by kernel_rfl
abbrev qx7:List It:=[.v (.t 0) T149]
abbrev qwM:List (List It):=[[.row (.t 0) false T44 44]]
noncomputable def qFA(n:Nat)(x:qb qx7):Option (qm qwM):=runW tab (qx6 n) (qEc n) (qa Tryz.f82) qx7 1 10 [.tmp 2] qwM x
noncomputable def qFB(n:Nat):Cw Tryz.prog:=⟨82,1,qx7,1,qwM,qFA n,fun _ _ h=>qz (B:=tab) (cs:=qx6 n) (lo:=qEc n) (rs:=[.tmp 2]) Tryz.func82 (by kernel_rfl) qNA (by kernel_rfl) (by decide) (qf (qNz n) all_nil) h⟩
noncomputable def qo5(n:Nat):CL Tryz.prog:=⟨[qJL n],[],0,fun _=>false⟩
noncomputable def qvP(n:Nat):Nat→St→PT (DEx×St):=fun _ _=>.fail
theorem qFC(n:Nat):qc (qo5 n).c (qa Tryz.f116) 0=[]:=by kernel_rfl
theorem qFD:Tryz.f116.body=some (qa Tryz.f116):=by kernel_rfl
abbrev qo6:List It:=[.v (.t 0) T44,.obj (.t 1) true 83 2,.v (.c 0 0) T83]
abbrev qom:List (List It):=[[.v (.t 0) T4,.obj (.t 1) true 83 2,.v (.c 0 0) T83]]
noncomputable def qwN(n:Nat)(x:qb qo6):Option (qm qom):=runW tab (qo5 n) (qvP n) (qa Tryz.f116) qo6 2 8 [.tmp 3] qom x
noncomputable def qwO(n:Nat):Cw Tryz.prog:=⟨116,2,qo6,1,qom,qwN n,fun _ _ h=>qz (B:=tab) (cs:=qo5 n) (lo:=qvP n) (rs:=[.tmp 3]) Tryz.func116 (by kernel_rfl) qFD (by kernel_rfl) (by decide) (qf (qFC n) all_nil) h⟩
noncomputable def q7(n:Nat):CL Tryz.prog:=⟨[],[qwO n],0,fun _=>false⟩
noncomputable def qhn(n:Nat):Nat→St→PT (DEx×St):=fun _ _=>.fail
abbrev qbz:List It:=[.v (.t 0) T25,.v (.t 7) T3,.v (.t 8) T3,.fnc (.t 1) 116 [.box true 83 2],.v (.c 0 0) T83]
abbrev qck:List (DEx×List It):=[(.exit 0,[.fnc (.t 1) 116 [.box true 83 2],.v (.c 0 0) T83]),(.ret,[.v (.t 4) T3,.fnc (.t 1) 116 [.box true 83 2],.v (.c 0 0) T83])]
noncomputable def qhE(n:Nat)(rec:qb qbz→Option (qg qck))(s:qb qbz):Option (qg qck):=(qh tab (q7 n) (qhn n) (subC [true,false,true,false,false] (qa Tryz.f23)) 1 (mkS qbz 19 s)).run (Lp.leaf 19 qbz qck rec)
noncomputable def qd2(n:Nat):Lp:=⟨19,qbz,qck,qe n (qhE n)⟩
theorem qnJ(n:Nat):qc (q7 n).c (subC [true,false,true,false,false] (qa Tryz.f23)) 1=[]:=by kernel_rfl
theorem qmO(n:Nat)(st:St)(r:DEx×St)(h:((qd2 n).go st).Is r):DA Tryz.prog false (.loop (subC [true,false,true,false,false] (qa Tryz.f23))) st r:=Lp.ok (L:=qd2 n) (B:=tab) (cs:=q7 n) (lo:=qhn n) (id:=0) rfl (qf (qnJ n) all_nil) (fun _ _=>rfl) h
noncomputable def qhF(n:Nat):Nat→St→PT (DEx×St):=fun k st=>match k with
 | 0=>(qd2 n).go st
 | _=>.fail
theorem qon(n:Nat):qc (q7 n).c (qa Tryz.f23) 0=[(0,.loop (subC [true,false,true,false,false] (qa Tryz.f23)))]:=by kernel_rfl
theorem qoo:Tryz.f23.body=some (qa Tryz.f23):=by kernel_rfl
abbrev qd3:List It:=[.v (.t 0) T25,.fnc (.t 1) 116 [.box true 83 2],.v (.c 0 0) T83]
abbrev qdS:List (List It):=[[.v (.t 0) T3,.obj (.t 1) true 83 2,.v (.c 0 0) T83]]
noncomputable def qhR(n:Nat)(x:qb qd3):Option (qm qdS):=runW tab (q7 n) (qhF n) (qa Tryz.f23) qd3 2 19 [.tmp 4] qdS x
noncomputable def qer(n:Nat):Cw Tryz.prog:=⟨23,2,qd3,1,qdS,qhR n,fun _ _ h=>qz (B:=tab) (cs:=q7 n) (lo:=qhF n) (rs:=[.tmp 4]) Tryz.func23 (by kernel_rfl) qoo (by kernel_rfl) (by decide) (qf (qon n) (all_cons (fun st r h=>qmO n st r h) all_nil)) h⟩
noncomputable def qdu(n:Nat):CL Tryz.prog:=⟨[],[qc9 n,qce n,qer n,qwO n],0,fun _=>false⟩
noncomputable def qgE(n:Nat):Nat→St→PT (DEx×St):=fun _ _=>.fail
theorem qm2(n:Nat):qc (qdu n).c (qa Tryz.f86) 0=[]:=by kernel_rfl
theorem qm3:Tryz.f86.body=some (qa Tryz.f86):=by kernel_rfl
abbrev qdv:List It:=[.v (.t 0) T25,.fnc (.t 1) 116 [.box true 83 2],.v (.c 0 0) T83]
abbrev qdi:List (List It):=[[.v (.t 0) T4,.obj (.t 1) true 83 2,.v (.c 0 0) T83]]
noncomputable def qg2(n:Nat)(x:qb qdv):Option (qm qdi):=runW tab (qdu n) (qgE n) (qa Tryz.f86) qdv 2 9 [.tmp 4] qdi x
noncomputable def qm4(n:Nat):Cw Tryz.prog:=⟨86,2,qdv,1,qdi,qg2 n,fun _ _ h=>qz (B:=tab) (cs:=qdu n) (lo:=qgE n) (rs:=[.tmp 4]) Tryz.func86 (by kernel_rfl) qm3 (by kernel_rfl) (by decide) (qf (qm2 n) all_nil) h⟩
noncomputable def qr0(n:Nat):CL Tryz.prog:=⟨[qRW n],[qFB n,qi4 n,qm4 n],1,fun _=>false⟩
noncomputable def qyE(n:Nat):Nat→St→PT (DEx×St):=fun _ _=>.fail
theorem qIn(n:Nat):qc (qr0 n).c (qa Tryz.f77) 0=[]:=by kernel_rfl
theorem qIo:Tryz.f77.body=some (qa Tryz.f77):=by kernel_rfl
abbrev qti:List Ar:=[.d T83,.d T25]
abbrev qtj:List Ty:=[T37]
noncomputable def qzU(n:Nat)(x:qC qti):Option (qk qtj):=(qh tab (qr0 n) (qyE n) (qa Tryz.f77) 0 (qJ qti 19 x)).run (qbM tab [.tmp 4] qtj)
noncomputable def qIp(n:Nat):Ct Tryz.prog:=⟨77,qti,.ts qtj,qzU n,fun _ _ h=>qbO (B:=tab) (cs:=qr0 n) (lo:=qyE n) (rs:=[.tmp 4]) Tryz.func77 (by kernel_rfl) qIo (by kernel_rfl) (by decide) (qf (qIn n) all_nil) h⟩
noncomputable def qDF(n:Nat):CL Tryz.prog:=⟨[qOG n,qIp n],[],0,fun _=>false⟩
noncomputable def qKn(n:Nat):Nat→St→PT (DEx×St):=fun _ _=>.fail
theorem qRX(n:Nat):qc (qDF n).c (qa Tryz.f45) 0=[]:=by kernel_rfl
theorem qRY:Tryz.f45.body=some (qa Tryz.f45):=by kernel_rfl
abbrev qFE:List Ar:=[.d T24,.d T25]
abbrev qFF:List Ty:=[T37]
noncomputable def qLD(n:Nat)(x:qC qFE):Option (qk qFF):=(qh tab (qDF n) (qKn n) (qa Tryz.f45) 0 (qJ qFE 14 x)).run (qbM tab [.tmp 4] qFF)
noncomputable def qLE(n:Nat):Ct Tryz.prog:=⟨45,qFE,.ts qFF,qLD n,fun _ _ h=>qbO (B:=tab) (cs:=qDF n) (lo:=qKn n) (rs:=[.tmp 4]) Tryz.func45 (by kernel_rfl) qRY (by kernel_rfl) (by decide) (qf (qRX n) all_nil) h⟩
end Go.Proofs.YtklkodbibffohaaGreat
