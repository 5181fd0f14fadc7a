/- Printed: what functions of the program compute. -/
import Derived.Test.YtklkodbibffohaaGreatDnB
set_option linter.constructorNameAsVariable false
set_option linter.unusedSimpArgs false
set_option linter.unusedVariables false
set_option linter.unusedSectionVars false
namespace Go.Proofs.YtklkodbibffohaaGreat
open Go Go.Proofs Go.RowKit
set_option maxRecDepth 20000
noncomputable def qAI(n:Nat):CL Tryz.prog:=⟨[qsN n,qFr n],[],0,fun _=>false⟩
noncomputable def qG0(n:Nat):Nat→St→PT (DEx×St):=fun _ _=>.fail
theorem qPl(n:Nat):qc (qAI n).c (qa Tryz.f89) 0=[]:=by kernel_rfl
theorem qPm:Tryz.f89.body=some (qa Tryz.f89):=by kernel_rfl
abbrev qCc:List Ar:=[.d T44,.d T44]
abbrev qCd:List Ty:=[T3]
noncomputable def qIl(n:Nat)(x:qC qCc):Option (qk qCd):=(qh tab (qAI n) (qG0 n) (qa Tryz.f89) 0 (qJ qCc 17 x)).run (qbM tab [.tmp 4] qCd)
noncomputable def qCe(n:Nat):Ct Tryz.prog:=⟨89,qCc,.ts qCd,qIl n,fun _ _ h=>qbO (B:=tab) (cs:=qAI n) (lo:=qG0 n) (rs:=[.tmp 4]) Tryz.func89 (by kernel_rfl) qPm (by kernel_rfl) (by decide) (qf (qPl n) all_nil) h⟩
noncomputable def qwI(n:Nat):CL Tryz.prog:=⟨[],[],0,fun _=>false⟩
noncomputable def qC6(n:Nat):Nat→St→PT (DEx×St):=fun _ _=>.fail
theorem qMw(n:Nat):qc (qwI n).c (qa Tryz.f87) 0=[]:=by kernel_rfl
theorem qMx:Tryz.f87.body=some (qa Tryz.f87):=by kernel_rfl
abbrev qwJ:List It:=[.v (.t 0) T44,.obj (.t 1) true 44 5,.v (.c 0 0) T44]
abbrev qvn:List (List It):=[[.v (.t 0) T4,.obj (.t 1) true 44 5,.v (.c 0 0) T44]]
noncomputable def qD6(n:Nat)(x:qb qwJ):Option (qm qvn):=runW tab (qwI n) (qC6 n) (qa Tryz.f87) qwJ 2 14 [.tmp 3] qvn x
noncomputable def qD7(n:Nat):Cw Tryz.prog:=⟨87,2,qwJ,1,qvn,qD6 n,fun _ _ h=>qz (B:=tab) (cs:=qwI n) (lo:=qC6 n) (rs:=[.tmp 3]) Tryz.func87 (by kernel_rfl) qMx (by kernel_rfl) (by decide) (qf (qMw n) all_nil) h⟩
noncomputable def qbw(n:Nat):CL Tryz.prog:=⟨[],[qD7 n],0,fun _=>false⟩
noncomputable def qjk(n:Nat):Nat→St→PT (DEx×St):=fun _ _=>.fail
abbrev qb4:List It:=[.v (.t 0) T25,.v (.t 7) T3,.v (.t 8) T3,.fnc (.t 1) 87 [.box true 44 5],.v (.c 0 0) T44]
abbrev qdh:List (DEx×List It):=[(.exit 0,[.fnc (.t 1) 87 [.box true 44 5],.v (.c 0 0) T44]),(.ret,[.v (.t 4) T3,.fnc (.t 1) 87 [.box true 44 5],.v (.c 0 0) T44])]
noncomputable def qjD(n:Nat)(rec:qb qb4→Option (qg qdh))(s:qb qb4):Option (qg qdh):=(qh tab (qbw n) (qjk n) (subC [true,false,true,false,false] (qa Tryz.f23)) 1 (mkS qb4 19 s)).run (Lp.leaf 19 qb4 qdh rec)
noncomputable def qfr(n:Nat):Lp:=⟨19,qb4,qdh,qe n (qjD n)⟩
theorem qqU(n:Nat):qc (qbw n).c (subC [true,false,true,false,false] (qa Tryz.f23)) 1=[]:=by kernel_rfl
theorem qpB(n:Nat)(st:St)(r:DEx×St)(h:((qfr n).go st).Is r):DA Tryz.prog false (.loop (subC [true,false,true,false,false] (qa Tryz.f23))) st r:=Lp.ok (L:=qfr n) (B:=tab) (cs:=qbw n) (lo:=qjk n) (id:=0) rfl (qf (qqU n) all_nil) (fun _ _=>rfl) h
noncomputable def qjE(n:Nat):Nat→St→PT (DEx×St):=fun k st=>match k with
 | 0=>(qfr n).go st
 | _=>.fail
theorem qri(n:Nat):qc (qbw n).c (qa Tryz.f23) 0=[(0,.loop (subC [true,false,true,false,false] (qa Tryz.f23)))]:=by kernel_rfl
theorem qrj:Tryz.f23.body=some (qa Tryz.f23):=by kernel_rfl
abbrev qfs:List It:=[.v (.t 0) T25,.fnc (.t 1) 87 [.box true 44 5],.v (.c 0 0) T44]
abbrev qfo:List (List It):=[[.v (.t 0) T3,.obj (.t 1) true 44 5,.v (.c 0 0) T44]]
noncomputable def qjY(n:Nat)(x:qb qfs):Option (qm qfo):=runW tab (qbw n) (qjE n) (qa Tryz.f23) qfs 2 19 [.tmp 4] qfo x
noncomputable def qce(n:Nat):Cw Tryz.prog:=⟨23,2,qfs,1,qfo,qjY n,fun _ _ h=>qz (B:=tab) (cs:=qbw n) (lo:=qjE n) (rs:=[.tmp 4]) Tryz.func23 (by kernel_rfl) qrj (by kernel_rfl) (by decide) (qf (qri n) (all_cons (fun st r h=>qpB n st r h) all_nil)) h⟩
noncomputable def qeW(n:Nat):CL Tryz.prog:=⟨[],[qce n,qD7 n],0,fun _=>false⟩
noncomputable def qiE(n:Nat):Nat→St→PT (DEx×St):=fun _ _=>.fail
theorem qpV(n:Nat):qc (qeW n).c (qa Tryz.f86) 0=[]:=by kernel_rfl
theorem qpW:Tryz.f86.body=some (qa Tryz.f86):=by kernel_rfl
abbrev qeX:List It:=[.v (.t 0) T25,.fnc (.t 1) 87 [.box true 44 5],.v (.c 0 0) T44]
abbrev qeM:List (List It):=[[.v (.t 0) T4,.obj (.t 1) true 44 5,.v (.c 0 0) T44]]
noncomputable def qi3(n:Nat)(x:qb qeX):Option (qm qeM):=runW tab (qeW n) (qiE n) (qa Tryz.f86) qeX 2 9 [.tmp 4] qeM x
noncomputable def qi4(n:Nat):Cw Tryz.prog:=⟨86,2,qeX,1,qeM,qi3 n,fun _ _ h=>qz (B:=tab) (cs:=qeW n) (lo:=qiE n) (rs:=[.tmp 4]) Tryz.func86 (by kernel_rfl) qpW (by kernel_rfl) (by decide) (qf (qpV n) all_nil) h⟩
noncomputable def qy9(n:Nat):CL Tryz.prog:=⟨[],[qi4 n],0,fun _=>false⟩
noncomputable def qFx(n:Nat):Nat→St→PT (DEx×St):=fun _ _=>.fail
theorem qOC(n:Nat):qc (qy9 n).c (qa Tryz.f85) 0=[]:=by kernel_rfl
theorem qOD:Tryz.f85.body=some (qa Tryz.f85):=by kernel_rfl
abbrev qza:List It:=[.v (.t 0) T44,.obj (.t 1) true 25 1,.v (.c 0 0) T25]
abbrev qx0:List (List It):=[[.v (.t 0) T4,.obj (.t 1) true 25 1,.v (.c 0 0) T25]]
noncomputable def qG1(n:Nat)(x:qb qza):Option (qm qx0):=runW tab (qy9 n) (qFx n) (qa Tryz.f85) qza 2 12 [.tmp 3] qx0 x
noncomputable def qG2(n:Nat):Cw Tryz.prog:=⟨85,2,qza,1,qx0,qG1 n,fun _ _ h=>qz (B:=tab) (cs:=qy9 n) (lo:=qFx n) (rs:=[.tmp 3]) Tryz.func85 (by kernel_rfl) qOD (by kernel_rfl) (by decide) (qf (qOC n) all_nil) h⟩
noncomputable def qp(n:Nat):CL Tryz.prog:=⟨[qCe n],[],0,fun _=>false⟩
noncomputable def qgx(n:Nat):Nat→St→PT (DEx×St):=fun _ _=>.fail
abbrev qbm:List It:=[.v (.t 1) T3,.v (.t 2) T3,.fn (.t 3) 89 [] [],.v (.t 8) T3,.v (.t 9) T3,.row (.t 0) true T44 44]
abbrev qb7:List (DEx×List It):=[(.exit 2,[.v (.t 1) T3,.v (.t 2) T3,.fn (.t 3) 89 [] [],.v (.t 8) T3,.row (.t 0) true T44 44])]
noncomputable def qgW(n:Nat)(rec:qb qbm→Option (qg qb7))(s:qb qbm):Option (qg qb7):=(qh tab (qp n) (qgx n) (subC [true,false,false,true,false,false,true,false,false] (qa Tryz.f141)) 2 (mkS qbm 53 s)).run (Lp.leaf 53 qbm qb7 rec)
noncomputable def qdF(n:Nat):Lp:=⟨53,qbm,qb7,qe n (qgW n)⟩
theorem qmY(n:Nat):qc (qp n).c (subC [true,false,false,true,false,false,true,false,false] (qa Tryz.f141)) 2=[]:=by kernel_rfl
theorem qmb(n:Nat)(st:St)(r:DEx×St)(h:((qdF n).go st).Is r):DA Tryz.prog false (.loop (subC [true,false,false,true,false,false,true,false,false] (qa Tryz.f141))) st r:=Lp.ok (L:=qdF n) (B:=tab) (cs:=qp n) (lo:=qgx n) (id:=1) rfl (qf (qmY n) all_nil) (fun _ _=>rfl) h
noncomputable def qgy(n:Nat):Nat→St→PT (DEx×St):=fun k st=>match k with
 | 1=>(qdF n).go st
 | _=>.fail
abbrev qbn:List It:=[.v (.t 1) T3,.v (.t 2) T3,.fn (.t 3) 89 [] [],.v (.t 8) T3,.row (.t 0) true T44 44]
abbrev qb8:List (DEx×List It):=[(.exit 0,[.row (.t 0) true T44 44])]
noncomputable def qgX(n:Nat)(rec:qb qbn→Option (qg qb8))(s:qb qbn):Option (qg qb8):=(qh tab (qp n) (qgy n) (subC [true,false,false] (qa Tryz.f141)) 1 (mkS qbn 53 s)).run (Lp.leaf 53 qbn qb8 rec)
noncomputable def qdG(n:Nat):Lp:=⟨53,qbn,qb8,qe n (qgX n)⟩
theorem qmZ(n:Nat):qc (qp n).c (subC [true,false,false] (qa Tryz.f141)) 1=[(1,.loop (subC [true,false,false,true,false,false,true,false,false] (qa Tryz.f141)))]:=by kernel_rfl
theorem qmc(n:Nat)(st:St)(r:DEx×St)(h:((qdG n).go st).Is r):DA Tryz.prog false (.loop (subC [true,false,false] (qa Tryz.f141))) st r:=Lp.ok (L:=qdG n) (B:=tab) (cs:=qp n) (lo:=qgy n) (id:=0) rfl (qf (qmZ n) (all_cons (fun st r h=>qmb n st r h) all_nil)) (fun _ _=>rfl) h
noncomputable def qgY(n:Nat):Nat→St→PT (DEx×St):=fun k st=>match k with
 | 0=>(qdG n).go st
 | _=>.fail
theorem qnv(n:Nat):qc (qp n).c (qa Tryz.f141) 0=[(0,.loop (subC [true,false,false] (qa Tryz.f141)))]:=by kernel_rfl
theorem qnw:Tryz.f141.body=some (qa Tryz.f141):=by kernel_rfl
abbrev qdH:List It:=[.v (.t 1) T3,.v (.t 2) T3,.fn (.t 3) 89 [] [],.row (.t 0) true T44 44]
abbrev qdr:List (List It):=[[.row (.t 0) true T44 44]]
noncomputable def qhj(n:Nat)(x:qb qdH):Option (qm qdr):=runW tab (qp n) (qgY n) (qa Tryz.f141) qdH 4 53 [] qdr x
noncomputable def qhk(n:Nat):Cw Tryz.prog:=⟨141,4,qdH,0,qdr,qhj n,fun _ _ h=>qz (B:=tab) (cs:=qp n) (lo:=qgY n) (rs:=[]) Tryz.func141 (by kernel_rfl) qnw (by kernel_rfl) (by decide) (qf (qnv n) (all_cons (fun st r h=>qmc n st r h) all_nil)) h⟩
noncomputable def qx1(n:Nat):CL Tryz.prog:=⟨[qsN n,qFr n],[],0,fun _=>false⟩
noncomputable def qD8(n:Nat):Nat→St→PT (DEx×St):=fun _ _=>.fail
theorem qNw(n:Nat):qc (qx1 n).c (qa Tryz.f140) 0=[]:=by kernel_rfl
theorem qNx:Tryz.f140.body=some (qa Tryz.f140):=by kernel_rfl
abbrev qzb:List Ar:=[.d T68,.d T68]
abbrev qzc:List Ty:=[T3]
noncomputable def qFy(n:Nat)(x:qC qzb):Option (qk qzc):=(qh tab (qx1 n) (qD8 n) (qa Tryz.f140) 0 (qJ qzb 26 x)).run (qbM tab [.tmp 4] qzc)
noncomputable def qNy(n:Nat):Ct Tryz.prog:=⟨140,qzb,.ts qzc,qFy n,fun _ _ h=>qbO (B:=tab) (cs:=qx1 n) (lo:=qD8 n) (rs:=[.tmp 4]) Tryz.func140 (by kernel_rfl) qNx (by kernel_rfl) (by decide) (qf (qNw n) all_nil) h⟩
noncomputable def qbK(n:Nat):CL Tryz.prog:=⟨[qNy n],[],0,fun _=>false⟩
noncomputable def qjZ(n:Nat):Nat→St→PT (DEx×St):=fun _ _=>.fail
abbrev qcm:List It:=[.v (.t 0) T42,.v (.t 1) T42,.fn (.t 2) 140 [] [],.v (.t 11) T42,.v (.t 12) T3,.v (.t 13) T3]
abbrev qdI:List (DEx×List It):=[(.exit 0,[.v (.t 0) T42,.v (.t 1) T42]),(.ret,[.v (.t 6) T3])]
noncomputable def qkc(n:Nat)(rec:qb qcm→Option (qg qdI))(s:qb qcm):Option (qg qdI):=(qh tab (qbK n) (qjZ n) (subC [true,false,true,false,false] (qa Tryz.f139)) 1 (mkS qcm 39 s)).run (Lp.leaf 39 qcm qdI rec)
noncomputable def qfO(n:Nat):Lp:=⟨39,qcm,qdI,qe n (qkc n)⟩
theorem qrT(n:Nat):qc (qbK n).c (subC [true,false,true,false,false] (qa Tryz.f139)) 1=[]:=by kernel_rfl
theorem qqD(n:Nat)(st:St)(r:DEx×St)(h:((qfO n).go st).Is r):DA Tryz.prog false (.loop (subC [true,false,true,false,false] (qa Tryz.f139))) st r:=Lp.ok (L:=qfO n) (B:=tab) (cs:=qbK n) (lo:=qjZ n) (id:=0) rfl (qf (qrT n) all_nil) (fun _ _=>rfl) h
noncomputable def qkd(n:Nat):Nat→St→PT (DEx×St):=fun k st=>match k with
 | 0=>(qfO n).go st
 | _=>.fail
theorem qsD(n:Nat):qc (qbK n).c (qa Tryz.f139) 0=[(0,.loop (subC [true,false,true,false,false] (qa Tryz.f139)))]:=by kernel_rfl
theorem qsE:Tryz.f139.body=some (qa Tryz.f139):=by kernel_rfl
abbrev qgb:List Ar:=[.d T42,.d T42,.fn 140 [] []]
abbrev qgc:List Ty:=[T3]
noncomputable def qkB(n:Nat)(x:qC qgb):Option (qk qgc):=(qh tab (qbK n) (qkd n) (qa Tryz.f139) 0 (qJ qgb 39 x)).run (qbM tab [.tmp 6] qgc)
noncomputable def qsF(n:Nat):Ct Tryz.prog:=⟨139,qgb,.ts qgc,qkB n,fun _ _ h=>qbO (B:=tab) (cs:=qbK n) (lo:=qkd n) (rs:=[.tmp 6]) Tryz.func139 (by kernel_rfl) qsE (by kernel_rfl) (by decide) (qf (qsD n) (all_cons (fun st r h=>qqD n st r h) all_nil)) h⟩
noncomputable def qAJ(n:Nat):CL Tryz.prog:=⟨[qsN n,qFr n,qsF n],[],0,fun _=>false⟩
noncomputable def qG3(n:Nat):Nat→St→PT (DEx×St):=fun _ _=>.fail
theorem qPn(n:Nat):qc (qAJ n).c (qa Tryz.f122) 0=[]:=by kernel_rfl
theorem qPo:Tryz.f122.body=some (qa Tryz.f122):=by kernel_rfl
abbrev qCf:List Ar:=[.d T44,.d T44]
abbrev qCg:List Ty:=[T3]
noncomputable def qIm(n:Nat)(x:qC qCf):Option (qk qCg):=(qh tab (qAJ n) (qG3 n) (qa Tryz.f122) 0 (qJ qCf 32 x)).run (qbM tab [.tmp 4] qCg)
noncomputable def qxs(n:Nat):Ct Tryz.prog:=⟨122,qCf,.ts qCg,qIm n,fun _ _ h=>qbO (B:=tab) (cs:=qAJ n) (lo:=qG3 n) (rs:=[.tmp 4]) Tryz.func122 (by kernel_rfl) qPo (by kernel_rfl) (by decide) (qf (qPn n) all_nil) h⟩
noncomputable def qq(n:Nat):CL Tryz.prog:=⟨[qxs n],[],0,fun _=>false⟩
noncomputable def qgz(n:Nat):Nat→St→PT (DEx×St):=fun _ _=>.fail
abbrev qbo:List It:=[.v (.t 1) T3,.v (.t 2) T3,.fn (.t 3) 122 [] [],.v (.t 8) T3,.v (.t 9) T3,.row (.t 0) true T44 44]
abbrev qb9:List (DEx×List It):=[(.exit 2,[.v (.t 1) T3,.v (.t 2) T3,.fn (.t 3) 122 [] [],.v (.t 8) T3,.row (.t 0) true T44 44])]
noncomputable def qgZ(n:Nat)(rec:qb qbo→Option (qg qb9))(s:qb qbo):Option (qg qb9):=(qh tab (qq n) (qgz n) (subC [true,false,false,true,false,false,true,false,false] (qa Tryz.f141)) 2 (mkS qbo 53 s)).run (Lp.leaf 53 qbo qb9 rec)
noncomputable def qdJ(n:Nat):Lp:=⟨53,qbo,qb9,qe n (qgZ n)⟩
theorem qm0(n:Nat):qc (qq n).c (subC [true,false,false,true,false,false,true,false,false] (qa Tryz.f141)) 2=[]:=by kernel_rfl
theorem qmd(n:Nat)(st:St)(r:DEx×St)(h:((qdJ n).go st).Is r):DA Tryz.prog false (.loop (subC [true,false,false,true,false,false,true,false,false] (qa Tryz.f141))) st r:=Lp.ok (L:=qdJ n) (B:=tab) (cs:=qq n) (lo:=qgz n) (id:=1) rfl (qf (qm0 n) all_nil) (fun _ _=>rfl) h
noncomputable def qgA(n:Nat):Nat→St→PT (DEx×St):=fun k st=>match k with
 | 1=>(qdJ n).go st
 | _=>.fail
abbrev qbp:List It:=[.v (.t 1) T3,.v (.t 2) T3,.fn (.t 3) 122 [] [],.v (.t 8) T3,.row (.t 0) true T44 44]
abbrev qca:List (DEx×List It):=[(.exit 0,[.row (.t 0) true T44 44])]
noncomputable def qg0(n:Nat)(rec:qb qbp→Option (qg qca))(s:qb qbp):Option (qg qca):=(qh tab (qq n) (qgA n) (subC [true,false,false] (qa Tryz.f141)) 1 (mkS qbp 53 s)).run (Lp.leaf 53 qbp qca rec)
noncomputable def qdK(n:Nat):Lp:=⟨53,qbp,qca,qe n (qg0 n)⟩
theorem qm1(n:Nat):qc (qq n).c (subC [true,false,false] (qa Tryz.f141)) 1=[(1,.loop (subC [true,false,false,true,false,false,true,false,false] (qa Tryz.f141)))]:=by kernel_rfl
theorem qme(n:Nat)(st:St)(r:DEx×St)(h:((qdK n).go st).Is r):DA Tryz.prog false (.loop (subC [true,false,false] (qa Tryz.f141))) st r:=Lp.ok (L:=qdK n) (B:=tab) (cs:=qq n) (lo:=qgA n) (id:=0) rfl (qf (qm1 n) (all_cons (fun st r h=>qmd n st r h) all_nil)) (fun _ _=>rfl) h
noncomputable def qg1(n:Nat):Nat→St→PT (DEx×St):=fun k st=>match k with
 | 0=>(qdK n).go st
 | _=>.fail
theorem qnx(n:Nat):qc (qq n).c (qa Tryz.f141) 0=[(0,.loop (subC [true,false,false] (qa Tryz.f141)))]:=by kernel_rfl
theorem qny:Tryz.f141.body=some (qa Tryz.f141):=by kernel_rfl
abbrev qdL:List It:=[.v (.t 1) T3,.v (.t 2) T3,.fn (.t 3) 122 [] [],.row (.t 0) true T44 44]
abbrev qds:List (List It):=[[.row (.t 0) true T44 44]]
noncomputable def qhl(n:Nat)(x:qb qdL):Option (qm qds):=runW tab (qq n) (qg1 n) (qa Tryz.f141) qdL 4 53 [] qds x
noncomputable def qhm(n:Nat):Cw Tryz.prog:=⟨141,4,qdL,0,qds,qhl n,fun _ _ h=>qz (B:=tab) (cs:=qq n) (lo:=qg1 n) (rs:=[]) Tryz.func141 (by kernel_rfl) qny (by kernel_rfl) (by decide) (qf (qnx n) (all_cons (fun st r h=>qme n st r h) all_nil)) h⟩
noncomputable def qwK(n:Nat):CL Tryz.prog:=⟨[qpA n],[],0,fun _=>false⟩
noncomputable def qC7(n:Nat):Nat→St→PT (DEx×St):=fun _ _=>.fail
theorem qMy(n:Nat):qc (qwK n).c (qa Tryz.f115) 0=[]:=by kernel_rfl
theorem qMz:Tryz.f115.body=some (qa Tryz.f115):=by kernel_rfl
abbrev qx2:List Ar:=[.d T95]
abbrev qx3:List Ty:=[T4]
noncomputable def qD9(n:Nat)(x:qC qx2):Option (qk qx3):=(qh tab (qwK n) (qC7 n) (qa Tryz.f115) 0 (qJ qx2 13 x)).run (qbM tab [.tmp 2] qx3)
noncomputable def qEa(n:Nat):Ct Tryz.prog:=⟨115,qx2,.ts qx3,qD9 n,fun _ _ h=>qbO (B:=tab) (cs:=qwK n) (lo:=qC7 n) (rs:=[.tmp 2]) Tryz.func115 (by kernel_rfl) qMz (by kernel_rfl) (by decide) (qf (qMy n) all_nil) h⟩
noncomputable def qbP(n:Nat):CL Tryz.prog:=⟨[qEa n],[],0,fun _=>false⟩
noncomputable def qkC(n:Nat):Nat→St→PT (DEx×St):=fun _ _=>.fail
abbrev qcu:List It:=[.v (.t 0) T22,.fn (.t 1) 115 [] [],.v (.t 7) T3,.v (.t 8) T3]
abbrev qeh:List (DEx×List It):=[(.exit 0,[]),(.ret,[.v (.t 4) T3])]
noncomputable def qk1(n:Nat)(rec:qb qcu→Option (qg qeh))(s:qb qcu):Option (qg qeh):=(qh tab (qbP n) (qkC n) (subC [true,false,true,false,false] (qa Tryz.f136)) 1 (mkS qcu 19 s)).run (Lp.leaf 19 qcu qeh rec)
noncomputable def qgB(n:Nat):Lp:=⟨19,qcu,qeh,qe n (qk1 n)⟩
theorem qs9(n:Nat):qc (qbP n).c (subC [true,false,true,false,false] (qa Tryz.f136)) 1=[]:=by kernel_rfl
theorem qrk(n:Nat)(st:St)(r:DEx×St)(h:((qgB n).go st).Is r):DA Tryz.prog false (.loop (subC [true,false,true,false,false] (qa Tryz.f136))) st r:=Lp.ok (L:=qgB n) (B:=tab) (cs:=qbP n) (lo:=qkC n) (id:=0) rfl (qf (qs9 n) all_nil) (fun _ _=>rfl) h
noncomputable def qk2(n:Nat):Nat→St→PT (DEx×St):=fun k st=>match k with
 | 0=>(qgB n).go st
 | _=>.fail
theorem qtT(n:Nat):qc (qbP n).c (qa Tryz.f136) 0=[(0,.loop (subC [true,false,true,false,false] (qa Tryz.f136)))]:=by kernel_rfl
theorem qtU:Tryz.f136.body=some (qa Tryz.f136):=by kernel_rfl
abbrev qha:List Ar:=[.d T22,.fn 115 [] []]
abbrev qhb:List Ty:=[T3]
noncomputable def qlA(n:Nat)(x:qC qha):Option (qk qhb):=(qh tab (qbP n) (qk2 n) (qa Tryz.f136) 0 (qJ qha 19 x)).run (qbM tab [.tmp 4] qhb)
noncomputable def qtV(n:Nat):Ct Tryz.prog:=⟨136,qha,.ts qhb,qlA n,fun _ _ h=>qbO (B:=tab) (cs:=qbP n) (lo:=qk2 n) (rs:=[.tmp 4]) Tryz.func136 (by kernel_rfl) qtU (by kernel_rfl) (by decide) (qf (qtT n) (all_cons (fun st r h=>qrk n st r h) all_nil)) h⟩
noncomputable def qfy(n:Nat):CL Tryz.prog:=⟨[qEa n,qtV n],[],0,fun _=>false⟩
noncomputable def qj0(n:Nat):Nat→St→PT (DEx×St):=fun _ _=>.fail
theorem qrU(n:Nat):qc (qfy n).c (qa Tryz.f114) 0=[]:=by kernel_rfl
theorem qrV:Tryz.f114.body=some (qa Tryz.f114):=by kernel_rfl
abbrev qfP:List Ar:=[.d T22,.fn 115 [] []]
abbrev qfQ:List Ty:=[T4]
noncomputable def qke(n:Nat)(x:qC qfP):Option (qk qfQ):=(qh tab (qfy n) (qj0 n) (qa Tryz.f114) 0 (qJ qfP 9 x)).run (qbM tab [.tmp 4] qfQ)
noncomputable def qrW(n:Nat):Ct Tryz.prog:=⟨114,qfP,.ts qfQ,qke n,fun _ _ h=>qbO (B:=tab) (cs:=qfy n) (lo:=qj0 n) (rs:=[.tmp 4]) Tryz.func114 (by kernel_rfl) qrV (by kernel_rfl) (by decide) (qf (qrU n) all_nil) h⟩
noncomputable def qzd(n:Nat):CL Tryz.prog:=⟨[qpA n,qrW n],[],0,fun _=>false⟩
noncomputable def qFz(n:Nat):Nat→St→PT (DEx×St):=fun _ _=>.fail
theorem qOE(n:Nat):qc (qzd n).c (qa Tryz.f76) 0=[]:=by kernel_rfl
theorem qOF:Tryz.f76.body=some (qa Tryz.f76):=by kernel_rfl
abbrev qAK:List Ar:=[.d T83]
abbrev qAL:List Ty:=[T4]
noncomputable def qG4(n:Nat)(x:qC qAK):Option (qk qAL):=(qh tab (qzd n) (qFz n) (qa Tryz.f76) 0 (qJ qAK 21 x)).run (qbM tab [.tmp 2] qAL)
noncomputable def qOG(n:Nat):Ct Tryz.prog:=⟨76,qAK,.ts qAL,qG4 n,fun _ _ h=>qbO (B:=tab) (cs:=qzd n) (lo:=qFz n) (rs:=[.tmp 2]) Tryz.func76 (by kernel_rfl) qOF (by kernel_rfl) (by decide) (qf (qOE n) all_nil) h⟩
noncomputable def qwL(n:Nat):CL Tryz.prog:=⟨[qxs n],[],0,fun _=>false⟩
noncomputable def qC8(n:Nat):Nat→St→PT (DEx×St):=fun _ _=>.fail
theorem qMA(n:Nat):qc (qwL n).c (qa Tryz.f124) 0=[]:=by kernel_rfl
theorem qMB:Tryz.f124.body=some (qa Tryz.f124):=by kernel_rfl
abbrev qx4:List Ar:=[.d T44,.d T44]
abbrev qx5:List Ty:=[T4]
noncomputable def qEb(n:Nat)(x:qC qx4):Option (qk qx5):=(qh tab (qwL n) (qC8 n) (qa Tryz.f124) 0 (qJ qx4 9 x)).run (qbM tab [.tmp 4] qx5)
noncomputable def qMC(n:Nat):Ct Tryz.prog:=⟨124,qx4,.ts qx5,qEb n,fun _ _ h=>qbO (B:=tab) (cs:=qwL n) (lo:=qC8 n) (rs:=[.tmp 4]) Tryz.func124 (by kernel_rfl) qMB (by kernel_rfl) (by decide) (qf (qMA n) all_nil) h⟩
end Go.Proofs.YtklkodbibffohaaGreat
