/- Texts DnN, DnO, DnQ in one. -/
import Derived.Test.YtklkodbibffohaaGreatNe
/- Printed: what functions of the program compute. -/
set_option linter.constructorNameAsVariable false
set_option linter.unusedSimpArgs false
set_option linter.unusedVariables false
set_option linter.unusedSectionVars false
namespace Go.Proofs.YtklkodbibffohaaGreat
open Go Go.Proofs Go.RowKit
set_option maxRecDepth 20000
noncomputable def qA2(n:Nat):CL Tryz.prog:=⟨[],[],0,fun _=>false⟩
noncomputable def qHe(n:Nat):Nat→St→PT (DEx×St):=fun _ _=>.fail
theorem qPE(n:Nat):qc (qA2 n).c (qa Tryz.f58) 0=[]:=by kernel_rfl
theorem qPF:Tryz.f58.body=some (qa Tryz.f58):=by kernel_rfl
abbrev qCs:List Ar:=[.d T3,.d T3,.d T3]
abbrev qCt:List Ty:=[T4]
noncomputable def qIE(n:Nat)(x:qC qCs):Option (qk qCt):=(qh tab (qA2 n) (qHe n) (qa Tryz.f58) 0 (qJ qCs 15 x)).run (qbM tab [.tmp 6] qCt)
noncomputable def qpI(n:Nat):Ct Tryz.prog:=⟨58,qCs,.ts qCt,qIE n,fun _ _ h=>qbO (B:=tab) (cs:=qA2 n) (lo:=qHe n) (rs:=[.tmp 6]) Tryz.func58 (by kernel_rfl) qPF (by kernel_rfl) (by decide) (qf (qPE n) all_nil) h⟩
noncomputable def qzl(n:Nat):CL Tryz.prog:=⟨[qpI n],[],0,fun _=>false⟩
noncomputable def qFW(n:Nat):Nat→St→PT (DEx×St):=fun _ _=>.fail
theorem qOU(n:Nat):qc (qzl n).c (qa Tryz.f70) 0=[]:=by kernel_rfl
theorem qOV:Tryz.f70.body=some (qa Tryz.f70):=by kernel_rfl
abbrev qA3:List Ar:=[.d T3]
abbrev qA4:List Ty:=[T4]
noncomputable def qHf(n:Nat)(x:qC qA3):Option (qk qA4):=(qh tab (qzl n) (qFW n) (qa Tryz.f70) 0 (qJ qA3 5 x)).run (qbM tab [.tmp 2] qA4)
noncomputable def qrv(n:Nat):Ct Tryz.prog:=⟨70,qA3,.ts qA4,qHf n,fun _ _ h=>qbO (B:=tab) (cs:=qzl n) (lo:=qFW n) (rs:=[.tmp 2]) Tryz.func70 (by kernel_rfl) qOV (by kernel_rfl) (by decide) (qf (qOU n) all_nil) h⟩
noncomputable def qFX(n:Nat):CL Tryz.prog:=⟨[qpI n],[],0,fun _=>false⟩
noncomputable def qLV(n:Nat):Nat→St→PT (DEx×St):=fun _ _=>.fail
theorem qSQ(n:Nat):qc (qFX n).c (qa Tryz.f65) 0=[]:=by kernel_rfl
theorem qSR:Tryz.f65.body=some (qa Tryz.f65):=by kernel_rfl
abbrev qHI:List Ar:=[.d T3]
abbrev qHJ:List Ty:=[T4]
noncomputable def qNb(n:Nat)(x:qC qHI):Option (qk qHJ):=(qh tab (qFX n) (qLV n) (qa Tryz.f65) 0 (qJ qHI 5 x)).run (qbM tab [.tmp 2] qHJ)
noncomputable def qyK(n:Nat):Ct Tryz.prog:=⟨65,qHI,.ts qHJ,qNb n,fun _ _ h=>qbO (B:=tab) (cs:=qFX n) (lo:=qLV n) (rs:=[.tmp 2]) Tryz.func65 (by kernel_rfl) qSR (by kernel_rfl) (by decide) (qf (qSQ n) all_nil) h⟩
noncomputable def qju(n:Nat):CL Tryz.prog:=⟨[qrv n],[],0,fun _=>false⟩
noncomputable def qn4(n:Nat):Nat→St→PT (DEx×St):=fun _ _=>.fail
theorem qx9(n:Nat):qc (qju n).c (qa Tryz.f103) 0=[]:=by kernel_rfl
theorem qya:Tryz.f103.body=some (qa Tryz.f103):=by kernel_rfl
abbrev qjv:List It:=[.v (.t 0) T3,.obj (.t 1) true 100 1,.fnc (.c 0 0) 70 []]
abbrev qje:List (List It):=[[.v (.t 0) T4,.obj (.t 1) true 100 1,.fnc (.c 0 0) 70 []]]
noncomputable def qoN(n:Nat)(x:qb qjv):Option (qm qje):=runW tab (qju n) (qn4 n) (qa Tryz.f103) qjv 2 8 [.tmp 3] qje x
noncomputable def qjM(n:Nat):Cw Tryz.prog:=⟨103,2,qjv,1,qje,qoN n,fun _ _ h=>qz (B:=tab) (cs:=qju n) (lo:=qn4 n) (rs:=[.tmp 3]) Tryz.func103 (by kernel_rfl) qya (by kernel_rfl) (by decide) (qf (qx9 n) all_nil) h⟩
noncomputable def qU(n:Nat):CL Tryz.prog:=⟨[qrv n],[qjM n],0,fun _=>false⟩
noncomputable def qgp(n:Nat):Nat→St→PT (DEx×St):=fun _ _=>.fail
abbrev qbg:List It:=[.v (.t 0) T26,.v (.t 7) T3,.v (.t 8) T3,.fnc (.t 1) 103 [.box true 100 1],.fnc (.c 0 0) 70 []]
abbrev qb1:List (DEx×List It):=[(.exit 0,[.fnc (.t 1) 103 [.box true 100 1],.fnc (.c 0 0) 70 []]),(.ret,[.v (.t 4) T3,.fnc (.t 1) 103 [.box true 100 1],.fnc (.c 0 0) 70 []])]
noncomputable def qgI(n:Nat)(rec:qb qbg→Option (qg qb1))(s:qb qbg):Option (qg qb1):=(qh tab (qU n) (qgp n) (subC [true,false,true,false,false] (qa Tryz.f131)) 1 (mkS qbg 19 s)).run (Lp.leaf 19 qbg qb1 rec)
noncomputable def qdw(n:Nat):Lp:=⟨19,qbg,qb1,qe n (qgI n)⟩
theorem qmR(n:Nat):qc (qU n).c (subC [true,false,true,false,false] (qa Tryz.f131)) 1=[]:=by kernel_rfl
theorem ql3(n:Nat)(st:St)(r:DEx×St)(h:((qdw n).go st).Is r):DA Tryz.prog false (.loop (subC [true,false,true,false,false] (qa Tryz.f131))) st r:=Lp.ok (L:=qdw n) (B:=tab) (cs:=qU n) (lo:=qgp n) (id:=0) rfl (qf (qmR n) all_nil) (fun _ _=>rfl) h
noncomputable def qgJ(n:Nat):Nat→St→PT (DEx×St):=fun k st=>match k with
 | 0=>(qdw n).go st
 | _=>.fail
theorem qna(n:Nat):qc (qU n).c (qa Tryz.f131) 0=[(0,.loop (subC [true,false,true,false,false] (qa Tryz.f131)))]:=by kernel_rfl
theorem qnb:Tryz.f131.body=some (qa Tryz.f131):=by kernel_rfl
abbrev qdx:List It:=[.v (.t 0) T26,.fnc (.t 1) 103 [.box true 100 1],.fnc (.c 0 0) 70 []]
abbrev qdj:List (List It):=[[.v (.t 0) T3,.obj (.t 1) true 100 1,.fnc (.c 0 0) 70 []]]
noncomputable def qg3(n:Nat)(x:qb qdx):Option (qm qdj):=runW tab (qU n) (qgJ n) (qa Tryz.f131) qdx 2 19 [.tmp 4] qdj x
noncomputable def qnc(n:Nat):Cw Tryz.prog:=⟨131,2,qdx,1,qdj,qg3 n,fun _ _ h=>qz (B:=tab) (cs:=qU n) (lo:=qgJ n) (rs:=[.tmp 4]) Tryz.func131 (by kernel_rfl) qnb (by kernel_rfl) (by decide) (qf (qna n) (all_cons (fun st r h=>ql3 n st r h) all_nil)) h⟩
noncomputable def qc5(n:Nat):CL Tryz.prog:=⟨[qrv n],[qjM n,qnc n],0,fun _=>false⟩
noncomputable def qfM(n:Nat):Nat→St→PT (DEx×St):=fun _ _=>.fail
theorem qmk(n:Nat):qc (qc5 n).c (qa Tryz.f102) 0=[]:=by kernel_rfl
theorem qml:Tryz.f102.body=some (qa Tryz.f102):=by kernel_rfl
abbrev qc6:List It:=[.v (.t 0) T26,.fnc (.t 1) 103 [.box true 100 1],.fnc (.c 0 0) 70 []]
abbrev qcT:List (List It):=[[.v (.t 0) T4,.obj (.t 1) true 100 1,.fnc (.c 0 0) 70 []]]
noncomputable def qf7(n:Nat)(x:qb qc6):Option (qm qcT):=runW tab (qc5 n) (qfM n) (qa Tryz.f102) qc6 2 9 [.tmp 4] qcT x
noncomputable def qmm(n:Nat):Cw Tryz.prog:=⟨102,2,qc6,1,qcT,qf7 n,fun _ _ h=>qz (B:=tab) (cs:=qc5 n) (lo:=qfM n) (rs:=[.tmp 4]) Tryz.func102 (by kernel_rfl) qml (by kernel_rfl) (by decide) (qf (qmk n) all_nil) h⟩
noncomputable def qki(n:Nat):CL Tryz.prog:=⟨[qrv n],[qmm n],0,fun _=>false⟩
noncomputable def qpv(n:Nat):Nat→St→PT (DEx×St):=fun _ _=>.fail
theorem qzm(n:Nat):qc (qki n).c (qa Tryz.f64) 0=[]:=by kernel_rfl
theorem qzn:Tryz.f64.body=some (qa Tryz.f64):=by kernel_rfl
abbrev qkj:List It:=[.v (.t 0) T26,.fn (.t 1) 70 [] []]
abbrev qjN:List (List It):=[[.v (.t 0) T4]]
noncomputable def qqf(n:Nat)(x:qb qkj):Option (qm qjN):=runW tab (qki n) (qpv n) (qa Tryz.f64) qkj 2 9 [.tmp 4] qjN x
noncomputable def qzo(n:Nat):Cw Tryz.prog:=⟨64,2,qkj,1,qjN,qqf n,fun _ _ h=>qz (B:=tab) (cs:=qki n) (lo:=qpv n) (rs:=[.tmp 4]) Tryz.func64 (by kernel_rfl) qzn (by kernel_rfl) (by decide) (qf (qzm n) all_nil) h⟩
noncomputable def qlu(n:Nat):CL Tryz.prog:=⟨[qyK n],[],0,fun _=>false⟩
noncomputable def qqM(n:Nat):Nat→St→PT (DEx×St):=fun _ _=>.fail
theorem qA5(n:Nat):qc (qlu n).c (qa Tryz.f103) 0=[]:=by kernel_rfl
theorem qA6:Tryz.f103.body=some (qa Tryz.f103):=by kernel_rfl
abbrev qlv:List It:=[.v (.t 0) T3,.obj (.t 1) true 100 1,.fnc (.c 0 0) 65 []]
abbrev qkR:List (List It):=[[.v (.t 0) T4,.obj (.t 1) true 100 1,.fnc (.c 0 0) 65 []]]
noncomputable def qrw(n:Nat)(x:qb qlv):Option (qm qkR):=runW tab (qlu n) (qqM n) (qa Tryz.f103) qlv 2 8 [.tmp 3] qkR x
noncomputable def qrx(n:Nat):Cw Tryz.prog:=⟨103,2,qlv,1,qkR,qrw n,fun _ _ h=>qz (B:=tab) (cs:=qlu n) (lo:=qqM n) (rs:=[.tmp 3]) Tryz.func103 (by kernel_rfl) qA6 (by kernel_rfl) (by decide) (qf (qA5 n) all_nil) h⟩
noncomputable def qba(n:Nat):CL Tryz.prog:=⟨[qyK n],[qrx n],0,fun _=>false⟩
noncomputable def qhI(n:Nat):Nat→St→PT (DEx×St):=fun _ _=>.fail
abbrev qbH:List It:=[.v (.t 0) T26,.v (.t 7) T3,.v (.t 8) T3,.fnc (.t 1) 103 [.box true 100 1],.fnc (.c 0 0) 65 []]
abbrev qcr:List (DEx×List It):=[(.exit 0,[.fnc (.t 1) 103 [.box true 100 1],.fnc (.c 0 0) 65 []]),(.ret,[.v (.t 4) T3,.fnc (.t 1) 103 [.box true 100 1],.fnc (.c 0 0) 65 []])]
noncomputable def qhV(n:Nat)(rec:qb qbH→Option (qg qcr))(s:qb qbH):Option (qg qcr):=(qh tab (qba n) (qhI n) (subC [true,false,true,false,false] (qa Tryz.f131)) 1 (mkS qbH 19 s)).run (Lp.leaf 19 qbH qcr rec)
noncomputable def qes(n:Nat):Lp:=⟨19,qbH,qcr,qe n (qhV n)⟩
theorem qos(n:Nat):qc (qba n).c (subC [true,false,true,false,false] (qa Tryz.f131)) 1=[]:=by kernel_rfl
theorem qnd(n:Nat)(st:St)(r:DEx×St)(h:((qes n).go st).Is r):DA Tryz.prog false (.loop (subC [true,false,true,false,false] (qa Tryz.f131))) st r:=Lp.ok (L:=qes n) (B:=tab) (cs:=qba n) (lo:=qhI n) (id:=0) rfl (qf (qos n) all_nil) (fun _ _=>rfl) h
noncomputable def qhW(n:Nat):Nat→St→PT (DEx×St):=fun k st=>match k with
 | 0=>(qes n).go st
 | _=>.fail
theorem qoO(n:Nat):qc (qba n).c (qa Tryz.f131) 0=[(0,.loop (subC [true,false,true,false,false] (qa Tryz.f131)))]:=by kernel_rfl
theorem qoP:Tryz.f131.body=some (qa Tryz.f131):=by kernel_rfl
abbrev qet:List It:=[.v (.t 0) T26,.fnc (.t 1) 103 [.box true 100 1],.fnc (.c 0 0) 65 []]
abbrev qd4:List (List It):=[[.v (.t 0) T3,.obj (.t 1) true 100 1,.fnc (.c 0 0) 65 []]]
noncomputable def qia(n:Nat)(x:qb qet):Option (qm qd4):=runW tab (qba n) (qhW n) (qa Tryz.f131) qet 2 19 [.tmp 4] qd4 x
noncomputable def qoQ(n:Nat):Cw Tryz.prog:=⟨131,2,qet,1,qd4,qia n,fun _ _ h=>qz (B:=tab) (cs:=qba n) (lo:=qhW n) (rs:=[.tmp 4]) Tryz.func131 (by kernel_rfl) qoP (by kernel_rfl) (by decide) (qf (qoO n) (all_cons (fun st r h=>qnd n st r h) all_nil)) h⟩
noncomputable def qdM(n:Nat):CL Tryz.prog:=⟨[qyK n],[qjM n,qrx n,qoQ n],0,fun _=>false⟩
noncomputable def qg4(n:Nat):Nat→St→PT (DEx×St):=fun _ _=>.fail
theorem qnC(n:Nat):qc (qdM n).c (qa Tryz.f102) 0=[]:=by kernel_rfl
theorem qnD:Tryz.f102.body=some (qa Tryz.f102):=by kernel_rfl
abbrev qdN:List It:=[.v (.t 0) T26,.fnc (.t 1) 103 [.box true 100 1],.fnc (.c 0 0) 65 []]
abbrev qdy:List (List It):=[[.v (.t 0) T4,.obj (.t 1) true 100 1,.fnc (.c 0 0) 65 []]]
noncomputable def qho(n:Nat)(x:qb qdN):Option (qm qdy):=runW tab (qdM n) (qg4 n) (qa Tryz.f102) qdN 2 9 [.tmp 4] qdy x
noncomputable def qnE(n:Nat):Cw Tryz.prog:=⟨102,2,qdN,1,qdy,qho n,fun _ _ h=>qz (B:=tab) (cs:=qdM n) (lo:=qg4 n) (rs:=[.tmp 4]) Tryz.func102 (by kernel_rfl) qnD (by kernel_rfl) (by decide) (qf (qnC n) all_nil) h⟩
noncomputable def qmn(n:Nat):CL Tryz.prog:=⟨[qyK n],[qnE n],0,fun _=>false⟩
noncomputable def qsx(n:Nat):Nat→St→PT (DEx×St):=fun _ _=>.fail
theorem qCu(n:Nat):qc (qmn n).c (qa Tryz.f64) 0=[]:=by kernel_rfl
theorem qCv:Tryz.f64.body=some (qa Tryz.f64):=by kernel_rfl
abbrev qmo:List It:=[.v (.t 0) T26,.fn (.t 1) 65 [] []]
abbrev qlT:List (List It):=[[.v (.t 0) T4]]
noncomputable def qts(n:Nat)(x:qb qmo):Option (qm qlT):=runW tab (qmn n) (qsx n) (qa Tryz.f64) qmo 2 9 [.tmp 4] qlT x
noncomputable def qCw(n:Nat):Cw Tryz.prog:=⟨64,2,qmo,1,qlT,qts n,fun _ _ h=>qz (B:=tab) (cs:=qmn n) (lo:=qsx n) (rs:=[.tmp 4]) Tryz.func64 (by kernel_rfl) qCv (by kernel_rfl) (by decide) (qf (qCu n) all_nil) h⟩
noncomputable def qn5(n:Nat):CL Tryz.prog:=⟨[],[qzo n],0,fun _=>false⟩
noncomputable def qFY(n:Nat):Nat→St→PT (DEx×St):=fun _ _=>.fail
abbrev qry:List It:=[.v (.t 0) T26,.v (.t 3) T3,.v (.t 6) T26,.v (.t 7) T3,.v (.t 8) T3]
abbrev qvZ:List (DEx×List It):=[(.exit 0,[.v (.t 0) T26,.v (.t 3) T3])]
noncomputable def qHg(n:Nat)(rec:qb qry→Option (qg qvZ))(s:qb qry):Option (qg qvZ):=(qh tab (qn5 n) (qFY n) (subC [true,true,false,true,false,false] (qa Tryz.f60)) 1 (mkS qry 22 s)).run (Lp.leaf 22 qry qvZ rec)
noncomputable def qA7(n:Nat):Lp:=⟨22,qry,qvZ,qe n (qHg n)⟩
theorem qOW(n:Nat):qc (qn5 n).c (subC [true,true,false,true,false,false] (qa Tryz.f60)) 1=[]:=by kernel_rfl
theorem qLW(n:Nat)(st:St)(r:DEx×St)(h:((qA7 n).go st).Is r):DA Tryz.prog false (.loop (subC [true,true,false,true,false,false] (qa Tryz.f60))) st r:=Lp.ok (L:=qA7 n) (B:=tab) (cs:=qn5 n) (lo:=qFY n) (id:=0) rfl (qf (qOW n) all_nil) (fun _ _=>rfl) h
noncomputable def qHh(n:Nat):Nat→St→PT (DEx×St):=fun k st=>match k with
 | 0=>(qA7 n).go st
 | _=>.fail
theorem qPG(n:Nat):qc (qn5 n).c (qa Tryz.f60) 0=[(0,.loop (subC [true,true,false,true,false,false] (qa Tryz.f60)))]:=by kernel_rfl
theorem qPH:Tryz.f60.body=some (qa Tryz.f60):=by kernel_rfl
abbrev qCx:List Ar:=[.d T26]
abbrev qCy:List Ty:=[T4]
noncomputable def qIF(n:Nat)(x:qC qCx):Option (qk qCy):=(qh tab (qn5 n) (qHh n) (qa Tryz.f60) 0 (qJ qCx 22 x)).run (qbM tab [.tmp 2] qCy)
noncomputable def qPI(n:Nat):Ct Tryz.prog:=⟨60,qCx,.ts qCy,qIF n,fun _ _ h=>qbO (B:=tab) (cs:=qn5 n) (lo:=qHh n) (rs:=[.tmp 2]) Tryz.func60 (by kernel_rfl) qPH (by kernel_rfl) (by decide) (qf (qPG n) (all_cons (fun st r h=>qLW n st r h) all_nil)) h⟩
noncomputable def qyb(n:Nat):CL Tryz.prog:=⟨[qpI n],[],0,fun _=>false⟩
noncomputable def qEf(n:Nat):Nat→St→PT (DEx×St):=fun _ _=>.fail
theorem qNH(n:Nat):qc (qyb n).c (qa Tryz.f57) 0=[]:=by kernel_rfl
theorem qNI:Tryz.f57.body=some (qa Tryz.f57):=by kernel_rfl
abbrev qyc:List It:=[.v (.t 0) T3,.obj (.t 1) true 32 13,.v (.c 0 0) T32]
abbrev qw1:List (List It):=[[.v (.t 0) T4,.obj (.t 1) true 32 13,.v (.c 0 0) T32]]
noncomputable def qFZ(n:Nat)(x:qb qyc):Option (qm qw1):=runW tab (qyb n) (qEf n) (qa Tryz.f57) qyc 2 9 [.tmp 3] qw1 x
noncomputable def qfY(n:Nat):Cw Tryz.prog:=⟨57,2,qyc,1,qw1,qFZ n,fun _ _ h=>qz (B:=tab) (cs:=qyb n) (lo:=qEf n) (rs:=[.tmp 3]) Tryz.func57 (by kernel_rfl) qNI (by kernel_rfl) (by decide) (qf (qNH n) all_nil) h⟩
noncomputable def qyd(n:Nat):CL Tryz.prog:=⟨[qPI n],[],0,fun _=>false⟩
noncomputable def qEg(n:Nat):Nat→St→PT (DEx×St):=fun _ _=>.fail
theorem qNJ(n:Nat):qc (qyd n).c (qa Tryz.f59) 0=[]:=by kernel_rfl
theorem qNK:Tryz.f59.body=some (qa Tryz.f59):=by kernel_rfl
abbrev qye:List It:=[.v (.t 0) T26,.obj (.t 1) true 32 13,.v (.c 0 0) T32]
abbrev qw2:List (List It):=[[.v (.t 0) T4,.obj (.t 1) true 32 13,.v (.c 0 0) T32]]
noncomputable def qF0(n:Nat)(x:qb qye):Option (qm qw2):=runW tab (qyd n) (qEg n) (qa Tryz.f59) qye 2 13 [.tmp 3] qw2 x
noncomputable def quJ(n:Nat):Cw Tryz.prog:=⟨59,2,qye,1,qw2,qF0 n,fun _ _ h=>qz (B:=tab) (cs:=qyd n) (lo:=qEg n) (rs:=[.tmp 3]) Tryz.func59 (by kernel_rfl) qNK (by kernel_rfl) (by decide) (qf (qNJ n) all_nil) h⟩
noncomputable def qyf(n:Nat):CL Tryz.prog:=⟨[qpI n],[],0,fun _=>false⟩
noncomputable def qEh(n:Nat):Nat→St→PT (DEx×St):=fun _ _=>.fail
theorem qNL(n:Nat):qc (qyf n).c (qa Tryz.f61) 0=[]:=by kernel_rfl
theorem qNM:Tryz.f61.body=some (qa Tryz.f61):=by kernel_rfl
abbrev qyg:List It:=[.v (.t 0) T75,.obj (.t 1) true 108 1,.mpi (.c 0 0) true T3 T3,.obj (.t 2) true 32 13,.v (.c 2 0) T32]
abbrev qw3:List (List It):=[[.v (.t 0) T4,.obj (.t 1) true 108 1,.mpi (.c 0 0) true T3 T3,.obj (.t 3) true 32 13,.v (.c 2 0) T32]]
noncomputable def qF1(n:Nat)(x:qb qyg):Option (qm qw3):=runW tab (qyf n) (qEh n) (qa Tryz.f61) qyg 3 33 [.tmp 4] qw3 x
noncomputable def quK(n:Nat):Cw Tryz.prog:=⟨61,3,qyg,1,qw3,qF1 n,fun _ _ h=>qz (B:=tab) (cs:=qyf n) (lo:=qEh n) (rs:=[.tmp 4]) Tryz.func61 (by kernel_rfl) qNM (by kernel_rfl) (by decide) (qf (qNL n) all_nil) h⟩
noncomputable def qlw(n:Nat):CL Tryz.prog:=⟨[],[qfY n],0,fun _=>false⟩
noncomputable def qqN(n:Nat):Nat→St→PT (DEx×St):=fun _ _=>.fail
theorem qA8(n:Nat):qc (qlw n).c (qa Tryz.f62) 0=[]:=by kernel_rfl
theorem qA9:Tryz.f62.body=some (qa Tryz.f62):=by kernel_rfl
abbrev qlx:List It:=[.v (.t 0) T55,.obj (.t 1) true 100 1,.fnc (.c 0 0) 57 [.box true 32 13],.v (.c 1 0) T32]
abbrev qkS:List (List It):=[[.v (.t 0) T4,.obj (.t 1) true 100 1,.fnc (.c 0 0) 57 [.box true 32 13],.v (.c 1 0) T32]]
noncomputable def qrz(n:Nat)(x:qb qlx):Option (qm qkS):=runW tab (qlw n) (qqN n) (qa Tryz.f62) qlx 2 14 [.tmp 3] qkS x
noncomputable def qis(n:Nat):Cw Tryz.prog:=⟨62,2,qlx,1,qkS,qrz n,fun _ _ h=>qz (B:=tab) (cs:=qlw n) (lo:=qqN n) (rs:=[.tmp 3]) Tryz.func62 (by kernel_rfl) qA9 (by kernel_rfl) (by decide) (qf (qA8 n) all_nil) h⟩
noncomputable def qly(n:Nat):CL Tryz.prog:=⟨[qpI n],[qfY n],0,fun _=>false⟩
noncomputable def qqO(n:Nat):Nat→St→PT (DEx×St):=fun _ _=>.fail
theorem qBa(n:Nat):qc (qly n).c (qa Tryz.f63) 0=[]:=by kernel_rfl
theorem qBb:Tryz.f63.body=some (qa Tryz.f63):=by kernel_rfl
abbrev qlz:List It:=[.v (.t 0) T57,.obj (.t 1) true 100 1,.obj (.t 2) true 32 13,.v (.c 1 0) T32,.fnc (.c 0 0) 57 [.al 1]]
abbrev qkT:List (List It):=[[.v (.t 0) T4,.obj (.t 1) true 100 1,.obj (.t 2) true 32 13,.v (.c 1 0) T32,.fnc (.c 0 0) 57 [.al 1]]]
noncomputable def qrA(n:Nat)(x:qb qlz):Option (qm qkT):=runW tab (qly n) (qqO n) (qa Tryz.f63) qlz 3 24 [.tmp 4] qkT x
noncomputable def qit(n:Nat):Cw Tryz.prog:=⟨63,3,qlz,1,qkT,qrA n,fun _ _ h=>qz (B:=tab) (cs:=qly n) (lo:=qqO n) (rs:=[.tmp 4]) Tryz.func63 (by kernel_rfl) qBb (by kernel_rfl) (by decide) (qf (qBa n) all_nil) h⟩
noncomputable def qjw(n:Nat):CL Tryz.prog:=⟨[],[quJ n],0,fun _=>false⟩
noncomputable def qn6(n:Nat):Nat→St→PT (DEx×St):=fun _ _=>.fail
theorem qyh(n:Nat):qc (qjw n).c (qa Tryz.f105) 0=[]:=by kernel_rfl
theorem qyi:Tryz.f105.body=some (qa Tryz.f105):=by kernel_rfl
abbrev qjx:List It:=[.v (.t 0) T26,.obj (.t 1) true 53 1,.fnc (.c 0 0) 59 [.box true 32 13],.v (.c 1 0) T32]
abbrev qjf:List (List It):=[[.v (.t 0) T4,.obj (.t 1) true 53 1,.fnc (.c 0 0) 59 [.box true 32 13],.v (.c 1 0) T32]]
noncomputable def qoR(n:Nat)(x:qb qjx):Option (qm qjf):=runW tab (qjw n) (qn6 n) (qa Tryz.f105) qjx 2 8 [.tmp 3] qjf x
noncomputable def qoS(n:Nat):Cw Tryz.prog:=⟨105,2,qjx,1,qjf,qoR n,fun _ _ h=>qz (B:=tab) (cs:=qjw n) (lo:=qn6 n) (rs:=[.tmp 3]) Tryz.func105 (by kernel_rfl) qyi (by kernel_rfl) (by decide) (qf (qyh n) all_nil) h⟩
noncomputable def qV(n:Nat):CL Tryz.prog:=⟨[],[quJ n,qoS n],0,fun _=>false⟩
noncomputable def qgq(n:Nat):Nat→St→PT (DEx×St):=fun _ _=>.fail
abbrev qbh:List It:=[.v (.t 0) T27,.v (.t 7) T3,.v (.t 8) T3,.fnc (.t 1) 105 [.box true 53 1],.fnc (.c 0 0) 59 [.box true 32 13],.v (.c 1 0) T32]
abbrev qb2:List (DEx×List It):=[(.exit 0,[.fnc (.t 1) 105 [.box true 53 1],.fnc (.c 0 0) 59 [.box true 32 13],.v (.c 1 0) T32]),(.ret,[.v (.t 4) T3,.fnc (.t 1) 105 [.box true 53 1],.fnc (.c 0 0) 59 [.box true 32 13],.v (.c 1 0) T32])]
noncomputable def qgK(n:Nat)(rec:qb qbh→Option (qg qb2))(s:qb qbh):Option (qg qb2):=(qh tab (qV n) (qgq n) (subC [true,false,true,false,false] (qa Tryz.f132)) 1 (mkS qbh 19 s)).run (Lp.leaf 19 qbh qb2 rec)
noncomputable def qdz(n:Nat):Lp:=⟨19,qbh,qb2,qe n (qgK n)⟩
theorem qmS(n:Nat):qc (qV n).c (subC [true,false,true,false,false] (qa Tryz.f132)) 1=[]:=by kernel_rfl
theorem ql4(n:Nat)(st:St)(r:DEx×St)(h:((qdz n).go st).Is r):DA Tryz.prog false (.loop (subC [true,false,true,false,false] (qa Tryz.f132))) st r:=Lp.ok (L:=qdz n) (B:=tab) (cs:=qV n) (lo:=qgq n) (id:=0) rfl (qf (qmS n) all_nil) (fun _ _=>rfl) h
noncomputable def qgL(n:Nat):Nat→St→PT (DEx×St):=fun k st=>match k with
 | 0=>(qdz n).go st
 | _=>.fail
theorem qne(n:Nat):qc (qV n).c (qa Tryz.f132) 0=[(0,.loop (subC [true,false,true,false,false] (qa Tryz.f132)))]:=by kernel_rfl
theorem qnf:Tryz.f132.body=some (qa Tryz.f132):=by kernel_rfl
abbrev qdA:List It:=[.v (.t 0) T27,.fnc (.t 1) 105 [.box true 53 1],.fnc (.c 0 0) 59 [.box true 32 13],.v (.c 1 0) T32]
abbrev qdk:List (List It):=[[.v (.t 0) T3,.obj (.t 1) true 53 1,.fnc (.c 0 0) 59 [.box true 32 13],.v (.c 1 0) T32]]
noncomputable def qg5(n:Nat)(x:qb qdA):Option (qm qdk):=runW tab (qV n) (qgL n) (qa Tryz.f132) qdA 2 19 [.tmp 4] qdk x
noncomputable def qng(n:Nat):Cw Tryz.prog:=⟨132,2,qdA,1,qdk,qg5 n,fun _ _ h=>qz (B:=tab) (cs:=qV n) (lo:=qgL n) (rs:=[.tmp 4]) Tryz.func132 (by kernel_rfl) qnf (by kernel_rfl) (by decide) (qf (qne n) (all_cons (fun st r h=>ql4 n st r h) all_nil)) h⟩
noncomputable def qc7(n:Nat):CL Tryz.prog:=⟨[],[quJ n,qoS n,qng n],0,fun _=>false⟩
noncomputable def qfN(n:Nat):Nat→St→PT (DEx×St):=fun _ _=>.fail
theorem qmp(n:Nat):qc (qc7 n).c (qa Tryz.f104) 0=[]:=by kernel_rfl
theorem qmq:Tryz.f104.body=some (qa Tryz.f104):=by kernel_rfl
abbrev qc8:List It:=[.v (.t 0) T27,.fnc (.t 1) 105 [.box true 53 1],.fnc (.c 0 0) 59 [.box true 32 13],.v (.c 1 0) T32]
abbrev qcU:List (List It):=[[.v (.t 0) T4,.obj (.t 1) true 53 1,.fnc (.c 0 0) 59 [.box true 32 13],.v (.c 1 0) T32]]
noncomputable def qf8(n:Nat)(x:qb qc8):Option (qm qcU):=runW tab (qc7 n) (qfN n) (qa Tryz.f104) qc8 2 9 [.tmp 4] qcU x
noncomputable def qmr(n:Nat):Cw Tryz.prog:=⟨104,2,qc8,1,qcU,qf8 n,fun _ _ h=>qz (B:=tab) (cs:=qc7 n) (lo:=qfN n) (rs:=[.tmp 4]) Tryz.func104 (by kernel_rfl) qmq (by kernel_rfl) (by decide) (qf (qmp n) all_nil) h⟩
noncomputable def qkk(n:Nat):CL Tryz.prog:=⟨[],[quJ n,qmr n],0,fun _=>false⟩
noncomputable def qpw(n:Nat):Nat→St→PT (DEx×St):=fun _ _=>.fail
theorem qzp(n:Nat):qc (qkk n).c (qa Tryz.f66) 0=[]:=by kernel_rfl
theorem qzq:Tryz.f66.body=some (qa Tryz.f66):=by kernel_rfl
abbrev qkl:List It:=[.v (.t 0) T27,.fnc (.t 1) 59 [.box true 32 13],.v (.c 0 0) T32]
abbrev qjO:List (List It):=[[.v (.t 0) T4,.obj (.t 1) true 32 13,.v (.c 0 0) T32]]
noncomputable def qqg(n:Nat)(x:qb qkl):Option (qm qjO):=runW tab (qkk n) (qpw n) (qa Tryz.f66) qkl 2 9 [.tmp 4] qjO x
noncomputable def qzr(n:Nat):Cw Tryz.prog:=⟨66,2,qkl,1,qjO,qqg n,fun _ _ h=>qz (B:=tab) (cs:=qkk n) (lo:=qpw n) (rs:=[.tmp 4]) Tryz.func66 (by kernel_rfl) qzq (by kernel_rfl) (by decide) (qf (qzp n) all_nil) h⟩
noncomputable def qhx(n:Nat):CL Tryz.prog:=⟨[],[quK n],0,fun _=>false⟩
noncomputable def qlU(n:Nat):Nat→St→PT (DEx×St):=fun _ _=>.fail
theorem quY(n:Nat):qc (qhx n).c (qa Tryz.f107) 0=[]:=by kernel_rfl
theorem quZ:Tryz.f107.body=some (qa Tryz.f107):=by kernel_rfl
abbrev qhy:List It:=[.v (.t 0) T75,.obj (.t 1) true 109 1,.fnc (.c 0 0) 61 [.box true 108 1,.box true 32 13],.mpi (.c 1 0) true T3 T3,.v (.c 2 0) T32]
abbrev qhe:List (List It):=[[.v (.t 0) T4,.obj (.t 1) true 109 1,.fnc (.c 0 0) 61 [.box true 108 1,.box true 32 13],.mpi (.c 1 0) true T3 T3,.v (.c 2 0) T32]]
noncomputable def ql8(n:Nat)(x:qb qhy):Option (qm qhe):=runW tab (qhx n) (qlU n) (qa Tryz.f107) qhy 2 8 [.tmp 3] qhe x
noncomputable def ql9(n:Nat):Cw Tryz.prog:=⟨107,2,qhy,1,qhe,ql8 n,fun _ _ h=>qz (B:=tab) (cs:=qhx n) (lo:=qlU n) (rs:=[.tmp 3]) Tryz.func107 (by kernel_rfl) quZ (by kernel_rfl) (by decide) (qf (quY n) all_nil) h⟩
noncomputable def qD(n:Nat):CL Tryz.prog:=⟨[],[quK n,ql9 n],0,fun _=>false⟩
noncomputable def qeL(n:Nat):Nat→St→PT (DEx×St):=fun _ _=>.fail
abbrev qP:List It:=[.v (.t 0) T28,.v (.t 7) T3,.v (.t 8) T3,.fnc (.t 1) 107 [.box true 109 1],.fnc (.c 0 0) 61 [.box true 108 1,.box true 32 13],.mpi (.c 1 0) true T3 T3,.v (.c 2 0) T32]
abbrev qbq:List (DEx×List It):=[(.exit 0,[.fnc (.t 1) 107 [.box true 109 1],.fnc (.c 0 0) 61 [.box true 108 1,.box true 32 13],.mpi (.c 1 0) true T3 T3,.v (.c 2 0) T32]),(.ret,[.v (.t 4) T3,.fnc (.t 1) 107 [.box true 109 1],.fnc (.c 0 0) 61 [.box true 108 1,.box true 32 13],.mpi (.c 1 0) true T3 T3,.v (.c 2 0) T32])]
noncomputable def qeU(n:Nat)(rec:qb qP→Option (qg qbq))(s:qb qP):Option (qg qbq):=(qh tab (qD n) (qeL n) (subC [true,false,true,false,false] (qa Tryz.f133)) 1 (mkS qP 19 s)).run (Lp.leaf 19 qP qbq rec)
noncomputable def qcn(n:Nat):Lp:=⟨19,qP,qbq,qe n (qeU n)⟩
theorem qkm(n:Nat):qc (qD n).c (subC [true,false,true,false,false] (qa Tryz.f133)) 1=[]:=by kernel_rfl
theorem qjH(n:Nat)(st:St)(r:DEx×St)(h:((qcn n).go st).Is r):DA Tryz.prog false (.loop (subC [true,false,true,false,false] (qa Tryz.f133))) st r:=Lp.ok (L:=qcn n) (B:=tab) (cs:=qD n) (lo:=qeL n) (id:=0) rfl (qf (qkm n) all_nil) (fun _ _=>rfl) h
noncomputable def qeV(n:Nat):Nat→St→PT (DEx×St):=fun k st=>match k with
 | 0=>(qcn n).go st
 | _=>.fail
theorem qkv(n:Nat):qc (qD n).c (qa Tryz.f133) 0=[(0,.loop (subC [true,false,true,false,false] (qa Tryz.f133)))]:=by kernel_rfl
theorem qkw:Tryz.f133.body=some (qa Tryz.f133):=by kernel_rfl
abbrev qco:List It:=[.v (.t 0) T28,.fnc (.t 1) 107 [.box true 109 1],.fnc (.c 0 0) 61 [.box true 108 1,.box true 32 13],.mpi (.c 1 0) true T3 T3,.v (.c 2 0) T32]
abbrev qci:List (List It):=[[.v (.t 0) T3,.obj (.t 1) true 109 1,.fnc (.c 0 0) 61 [.box true 108 1,.box true 32 13],.mpi (.c 1 0) true T3 T3,.v (.c 2 0) T32]]
noncomputable def qfc(n:Nat)(x:qb qco):Option (qm qci):=runW tab (qD n) (qeV n) (qa Tryz.f133) qco 2 19 [.tmp 4] qci x
noncomputable def qkx(n:Nat):Cw Tryz.prog:=⟨133,2,qco,1,qci,qfc n,fun _ _ h=>qz (B:=tab) (cs:=qD n) (lo:=qeV n) (rs:=[.tmp 4]) Tryz.func133 (by kernel_rfl) qkw (by kernel_rfl) (by decide) (qf (qkv n) (all_cons (fun st r h=>qjH n st r h) all_nil)) h⟩
noncomputable def qb5(n:Nat):CL Tryz.prog:=⟨[],[quK n,ql9 n,qkx n],0,fun _=>false⟩
noncomputable def qez(n:Nat):Nat→St→PT (DEx×St):=fun _ _=>.fail
theorem qjP(n:Nat):qc (qb5 n).c (qa Tryz.f106) 0=[]:=by kernel_rfl
theorem qjQ:Tryz.f106.body=some (qa Tryz.f106):=by kernel_rfl
abbrev qb6:List It:=[.v (.t 0) T28,.fnc (.t 1) 107 [.box true 109 1],.fnc (.c 0 0) 61 [.box true 108 1,.box true 32 13],.mpi (.c 1 0) true T3 T3,.v (.c 2 0) T32]
abbrev qb3:List (List It):=[[.v (.t 0) T4,.obj (.t 1) true 109 1,.fnc (.c 0 0) 61 [.box true 108 1,.box true 32 13],.mpi (.c 1 0) true T3 T3,.v (.c 2 0) T32]]
noncomputable def qeD(n:Nat)(x:qb qb6):Option (qm qb3):=runW tab (qb5 n) (qez n) (qa Tryz.f106) qb6 2 9 [.tmp 4] qb3 x
noncomputable def qjR(n:Nat):Cw Tryz.prog:=⟨106,2,qb6,1,qb3,qeD n,fun _ _ h=>qz (B:=tab) (cs:=qb5 n) (lo:=qez n) (rs:=[.tmp 4]) Tryz.func106 (by kernel_rfl) qjQ (by kernel_rfl) (by decide) (qf (qjP n) all_nil) h⟩
noncomputable def qig(n:Nat):CL Tryz.prog:=⟨[],[quK n,qjR n],0,fun _=>false⟩
noncomputable def qmE(n:Nat):Nat→St→PT (DEx×St):=fun _ _=>.fail
theorem qwg(n:Nat):qc (qig n).c (qa Tryz.f67) 0=[]:=by kernel_rfl
theorem qwh:Tryz.f67.body=some (qa Tryz.f67):=by kernel_rfl
abbrev qih:List It:=[.v (.t 0) T28,.fnc (.t 1) 61 [.box true 108 1,.box true 32 13],.mpi (.c 0 0) true T3 T3,.v (.c 1 0) T32]
abbrev qhX:List (List It):=[[.v (.t 0) T4,.obj (.t 1) true 108 1,.obj (.t 2) true 32 13,.mpi (.c 0 0) true T3 T3,.v (.c 1 0) T32]]
noncomputable def qmX(n:Nat)(x:qb qih):Option (qm qhX):=runW tab (qig n) (qmE n) (qa Tryz.f67) qih 2 9 [.tmp 4] qhX x
noncomputable def qwi(n:Nat):Cw Tryz.prog:=⟨67,2,qih,1,qhX,qmX n,fun _ _ h=>qz (B:=tab) (cs:=qig n) (lo:=qmE n) (rs:=[.tmp 4]) Tryz.func67 (by kernel_rfl) qwh (by kernel_rfl) (by decide) (qf (qwg n) all_nil) h⟩
noncomputable def qdW(n:Nat):CL Tryz.prog:=⟨[],[qfY n,qis n],0,fun _=>false⟩
noncomputable def qhp(n:Nat):Nat→St→PT (DEx×St):=fun _ _=>.fail
theorem qnO(n:Nat):qc (qdW n).c (qa Tryz.f108) 0=[]:=by kernel_rfl
theorem qnP:Tryz.f108.body=some (qa Tryz.f108):=by kernel_rfl
abbrev qdX:List It:=[.v (.t 0) T55,.obj (.t 1) true 110 1,.fnc (.c 0 0) 62 [.box true 100 1],.fnc (.c 1 0) 57 [.box true 32 13],.v (.c 2 0) T32]
abbrev qdO:List (List It):=[[.v (.t 0) T4,.obj (.t 1) true 110 1,.fnc (.c 0 0) 62 [.box true 100 1],.fnc (.c 1 0) 57 [.box true 32 13],.v (.c 2 0) T32]]
noncomputable def qhJ(n:Nat)(x:qb qdX):Option (qm qdO):=runW tab (qdW n) (qhp n) (qa Tryz.f108) qdX 2 8 [.tmp 3] qdO x
noncomputable def qhK(n:Nat):Cw Tryz.prog:=⟨108,2,qdX,1,qdO,qhJ n,fun _ _ h=>qz (B:=tab) (cs:=qdW n) (lo:=qhp n) (rs:=[.tmp 3]) Tryz.func108 (by kernel_rfl) qnP (by kernel_rfl) (by decide) (qf (qnO n) all_nil) h⟩
noncomputable def qo(n:Nat):CL Tryz.prog:=⟨[],[qfY n,qis n,qhK n],0,fun _=>false⟩
noncomputable def qcP(n:Nat):Nat→St→PT (DEx×St):=fun _ _=>.fail
abbrev qy:List It:=[.v (.t 0) T29,.v (.t 7) T3,.v (.t 8) T3,.fnc (.t 1) 108 [.box true 110 1],.fnc (.c 0 0) 62 [.box true 100 1],.fnc (.c 1 0) 57 [.box true 32 13],.v (.c 2 0) T32]
abbrev qO:List (DEx×List It):=[(.exit 0,[.fnc (.t 1) 108 [.box true 110 1],.fnc (.c 0 0) 62 [.box true 100 1],.fnc (.c 1 0) 57 [.box true 32 13],.v (.c 2 0) T32]),(.ret,[.v (.t 4) T3,.fnc (.t 1) 108 [.box true 110 1],.fnc (.c 0 0) 62 [.box true 100 1],.fnc (.c 1 0) 57 [.box true 32 13],.v (.c 2 0) T32])]
noncomputable def qcV(n:Nat)(rec:qb qy→Option (qg qO))(s:qb qy):Option (qg qO):=(qh tab (qo n) (qcP n) (subC [true,false,true,false,false] (qa Tryz.f111)) 1 (mkS qy 19 s)).run (Lp.leaf 19 qy qO rec)
noncomputable def qbx(n:Nat):Lp:=⟨19,qy,qO,qe n (qcV n)⟩
theorem qhz(n:Nat):qc (qo n).c (subC [true,false,true,false,false] (qa Tryz.f111)) 1=[]:=by kernel_rfl
theorem qgT(n:Nat)(st:St)(r:DEx×St)(h:((qbx n).go st).Is r):DA Tryz.prog false (.loop (subC [true,false,true,false,false] (qa Tryz.f111))) st r:=Lp.ok (L:=qbx n) (B:=tab) (cs:=qo n) (lo:=qcP n) (id:=0) rfl (qf (qhz n) all_nil) (fun _ _=>rfl) h
noncomputable def qcW(n:Nat):Nat→St→PT (DEx×St):=fun k st=>match k with
 | 0=>(qbx n).go st
 | _=>.fail
theorem qhP(n:Nat):qc (qo n).c (qa Tryz.f111) 0=[(0,.loop (subC [true,false,true,false,false] (qa Tryz.f111)))]:=by kernel_rfl
theorem qhQ:Tryz.f111.body=some (qa Tryz.f111):=by kernel_rfl
abbrev qby:List It:=[.v (.t 0) T29,.fnc (.t 1) 108 [.box true 110 1],.fnc (.c 0 0) 62 [.box true 100 1],.fnc (.c 1 0) 57 [.box true 32 13],.v (.c 2 0) T32]
abbrev qbs:List (List It):=[[.v (.t 0) T3,.obj (.t 1) true 110 1,.fnc (.c 0 0) 62 [.box true 100 1],.fnc (.c 1 0) 57 [.box true 32 13],.v (.c 2 0) T32]]
noncomputable def qcZ(n:Nat)(x:qb qby):Option (qm qbs):=runW tab (qo n) (qcW n) (qa Tryz.f111) qby 2 19 [.tmp 4] qbs x
noncomputable def qc0(n:Nat):Cw Tryz.prog:=⟨111,2,qby,1,qbs,qcZ n,fun _ _ h=>qz (B:=tab) (cs:=qo n) (lo:=qcW n) (rs:=[.tmp 4]) Tryz.func111 (by kernel_rfl) qhQ (by kernel_rfl) (by decide) (qf (qhP n) (all_cons (fun st r h=>qgT n st r h) all_nil)) h⟩
noncomputable def qbj(n:Nat):CL Tryz.prog:=⟨[],[qfY n,qis n,qhK n,qc0 n],0,fun _=>false⟩
noncomputable def qcD(n:Nat):Nat→St→PT (DEx×St):=fun _ _=>.fail
theorem qhf(n:Nat):qc (qbj n).c (qa Tryz.f72) 0=[]:=by kernel_rfl
theorem qhg:Tryz.f72.body=some (qa Tryz.f72):=by kernel_rfl
abbrev qbk:List It:=[.v (.t 0) T29,.fnc (.t 1) 108 [.box true 110 1],.fnc (.c 0 0) 62 [.box true 100 1],.fnc (.c 1 0) 57 [.box true 32 13],.v (.c 2 0) T32]
abbrev qbi:List (List It):=[[.v (.t 0) T4,.obj (.t 1) true 110 1,.fnc (.c 0 0) 62 [.box true 100 1],.fnc (.c 1 0) 57 [.box true 32 13],.v (.c 2 0) T32]]
noncomputable def qcF(n:Nat)(x:qb qbk):Option (qm qbi):=runW tab (qbj n) (qcD n) (qa Tryz.f72) qbk 2 9 [.tmp 4] qbi x
noncomputable def qcG(n:Nat):Cw Tryz.prog:=⟨72,2,qbk,1,qbi,qcF n,fun _ _ h=>qz (B:=tab) (cs:=qbj n) (lo:=qcD n) (rs:=[.tmp 4]) Tryz.func72 (by kernel_rfl) qhg (by kernel_rfl) (by decide) (qf (qhf n) all_nil) h⟩
noncomputable def qeu(n:Nat):CL Tryz.prog:=⟨[],[qfY n,qis n,qcG n],0,fun _=>false⟩
noncomputable def qhY(n:Nat):Nat→St→PT (DEx×St):=fun _ _=>.fail
theorem qoT(n:Nat):qc (qeu n).c (qa Tryz.f68) 0=[]:=by kernel_rfl
theorem qoU:Tryz.f68.body=some (qa Tryz.f68):=by kernel_rfl
abbrev qev:List It:=[.v (.t 0) T29,.fnc (.t 1) 62 [.box true 100 1],.fnc (.c 0 0) 57 [.box true 32 13],.v (.c 1 0) T32]
abbrev qd5:List (List It):=[[.v (.t 0) T4,.obj (.t 1) true 100 1,.fnc (.c 0 0) 57 [.box true 32 13],.v (.c 1 0) T32]]
noncomputable def qib(n:Nat)(x:qb qev):Option (qm qd5):=runW tab (qeu n) (qhY n) (qa Tryz.f68) qev 2 9 [.tmp 4] qd5 x
noncomputable def qoV(n:Nat):Cw Tryz.prog:=⟨68,2,qev,1,qd5,qib n,fun _ _ h=>qz (B:=tab) (cs:=qeu n) (lo:=qhY n) (rs:=[.tmp 4]) Tryz.func68 (by kernel_rfl) qoU (by kernel_rfl) (by decide) (qf (qoT n) all_nil) h⟩
noncomputable def qd6(n:Nat):CL Tryz.prog:=⟨[],[qfY n,qit n],0,fun _=>false⟩
noncomputable def qhL(n:Nat):Nat→St→PT (DEx×St):=fun _ _=>.fail
theorem qot(n:Nat):qc (qd6 n).c (qa Tryz.f110) 0=[]:=by kernel_rfl
theorem qou:Tryz.f110.body=some (qa Tryz.f110):=by kernel_rfl
abbrev qd7:List It:=[.v (.t 0) T57,.obj (.t 1) true 111 1,.fnc (.c 0 0) 63 [.box true 100 1,.box true 32 13],.fnc (.c 1 0) 57 [.al 2],.v (.c 2 0) T32]
abbrev qdY:List (List It):=[[.v (.t 0) T4,.obj (.t 1) true 111 1,.fnc (.c 0 0) 63 [.box true 100 1,.box true 32 13],.fnc (.c 1 0) 57 [.al 2],.v (.c 2 0) T32]]
noncomputable def qhZ(n:Nat)(x:qb qd7):Option (qm qdY):=runW tab (qd6 n) (qhL n) (qa Tryz.f110) qd7 2 8 [.tmp 3] qdY x
noncomputable def qh0(n:Nat):Cw Tryz.prog:=⟨110,2,qd7,1,qdY,qhZ n,fun _ _ h=>qz (B:=tab) (cs:=qd6 n) (lo:=qhL n) (rs:=[.tmp 3]) Tryz.func110 (by kernel_rfl) qou (by kernel_rfl) (by decide) (qf (qot n) all_nil) h⟩
noncomputable def qr(n:Nat):CL Tryz.prog:=⟨[],[qfY n,qit n,qh0 n],0,fun _=>false⟩
noncomputable def qc1(n:Nat):Nat→St→PT (DEx×St):=fun _ _=>.fail
abbrev qA:List It:=[.v (.t 0) T30,.v (.t 7) T3,.v (.t 8) T3,.fnc (.t 1) 110 [.box true 111 1],.fnc (.c 0 0) 63 [.box true 100 1,.box true 32 13],.fnc (.c 1 0) 57 [.al 2],.v (.c 2 0) T32]
abbrev qW:List (DEx×List It):=[(.exit 0,[.fnc (.t 1) 110 [.box true 111 1],.fnc (.c 0 0) 63 [.box true 100 1,.box true 32 13],.fnc (.c 1 0) 57 [.al 2],.v (.c 2 0) T32]),(.ret,[.v (.t 4) T3,.fnc (.t 1) 110 [.box true 111 1],.fnc (.c 0 0) 63 [.box true 100 1,.box true 32 13],.fnc (.c 1 0) 57 [.al 2],.v (.c 2 0) T32])]
noncomputable def qdc(n:Nat)(rec:qb qA→Option (qg qW))(s:qb qA):Option (qg qW):=(qh tab (qr n) (qc1 n) (subC [true,false,true,false,false] (qa Tryz.f134)) 1 (mkS qA 19 s)).run (Lp.leaf 19 qA qW rec)
noncomputable def qbI(n:Nat):Lp:=⟨19,qA,qW,qe n (qdc n)⟩
theorem qh1(n:Nat):qc (qr n).c (subC [true,false,true,false,false] (qa Tryz.f134)) 1=[]:=by kernel_rfl
theorem qhq(n:Nat)(st:St)(r:DEx×St)(h:((qbI n).go st).Is r):DA Tryz.prog false (.loop (subC [true,false,true,false,false] (qa Tryz.f134))) st r:=Lp.ok (L:=qbI n) (B:=tab) (cs:=qr n) (lo:=qc1 n) (id:=0) rfl (qf (qh1 n) all_nil) (fun _ _=>rfl) h
noncomputable def qdd(n:Nat):Nat→St→PT (DEx×St):=fun k st=>match k with
 | 0=>(qbI n).go st
 | _=>.fail
theorem qh5(n:Nat):qc (qr n).c (qa Tryz.f134) 0=[(0,.loop (subC [true,false,true,false,false] (qa Tryz.f134)))]:=by kernel_rfl
theorem qh6:Tryz.f134.body=some (qa Tryz.f134):=by kernel_rfl
abbrev qbJ:List It:=[.v (.t 0) T30,.fnc (.t 1) 110 [.box true 111 1],.fnc (.c 0 0) 63 [.box true 100 1,.box true 32 13],.fnc (.c 1 0) 57 [.al 2],.v (.c 2 0) T32]
abbrev qbB:List (List It):=[[.v (.t 0) T3,.obj (.t 1) true 111 1,.fnc (.c 0 0) 63 [.box true 100 1,.box true 32 13],.fnc (.c 1 0) 57 [.al 2],.v (.c 2 0) T32]]
noncomputable def qdf(n:Nat)(x:qb qbJ):Option (qm qbB):=runW tab (qr n) (qdd n) (qa Tryz.f134) qbJ 2 19 [.tmp 4] qbB x
noncomputable def qh7(n:Nat):Cw Tryz.prog:=⟨134,2,qbJ,1,qbB,qdf n,fun _ _ h=>qz (B:=tab) (cs:=qr n) (lo:=qdd n) (rs:=[.tmp 4]) Tryz.func134 (by kernel_rfl) qh6 (by kernel_rfl) (by decide) (qf (qh5 n) (all_cons (fun st r h=>qhq n st r h) all_nil)) h⟩
noncomputable def qbt(n:Nat):CL Tryz.prog:=⟨[],[qfY n,qit n,qh0 n,qh7 n],0,fun _=>false⟩
noncomputable def qcQ(n:Nat):Nat→St→PT (DEx×St):=fun _ _=>.fail
theorem qhA(n:Nat):qc (qbt n).c (qa Tryz.f109) 0=[]:=by kernel_rfl
theorem qhB:Tryz.f109.body=some (qa Tryz.f109):=by kernel_rfl
abbrev qbu:List It:=[.v (.t 0) T30,.fnc (.t 1) 110 [.box true 111 1],.fnc (.c 0 0) 63 [.box true 100 1,.box true 32 13],.fnc (.c 1 0) 57 [.al 2],.v (.c 2 0) T32]
abbrev qbr:List (List It):=[[.v (.t 0) T4,.obj (.t 1) true 111 1,.fnc (.c 0 0) 63 [.box true 100 1,.box true 32 13],.fnc (.c 1 0) 57 [.al 2],.v (.c 2 0) T32]]
noncomputable def qcX(n:Nat)(x:qb qbu):Option (qm qbr):=runW tab (qbt n) (qcQ n) (qa Tryz.f109) qbu 2 9 [.tmp 4] qbr x
noncomputable def qhC(n:Nat):Cw Tryz.prog:=⟨109,2,qbu,1,qbr,qcX n,fun _ _ h=>qz (B:=tab) (cs:=qbt n) (lo:=qcQ n) (rs:=[.tmp 4]) Tryz.func109 (by kernel_rfl) qhB (by kernel_rfl) (by decide) (qf (qhA n) all_nil) h⟩
noncomputable def qeE(n:Nat):CL Tryz.prog:=⟨[],[qfY n,qit n,qhC n],0,fun _=>false⟩
noncomputable def qic(n:Nat):Nat→St→PT (DEx×St):=fun _ _=>.fail
theorem qpe(n:Nat):qc (qeE n).c (qa Tryz.f69) 0=[]:=by kernel_rfl
theorem qpf:Tryz.f69.body=some (qa Tryz.f69):=by kernel_rfl
abbrev qeF:List It:=[.v (.t 0) T30,.fnc (.t 1) 63 [.box true 100 1,.box true 32 13],.fnc (.c 0 0) 57 [.al 1],.v (.c 1 0) T32]
abbrev qew:List (List It):=[[.v (.t 0) T4,.obj (.t 1) true 100 1,.obj (.t 2) true 32 13,.fnc (.c 0 0) 57 [.al 1],.v (.c 1 0) T32]]
noncomputable def qiu(n:Nat)(x:qb qeF):Option (qm qew):=runW tab (qeE n) (qic n) (qa Tryz.f69) qeF 2 9 [.tmp 4] qew x
noncomputable def qpg(n:Nat):Cw Tryz.prog:=⟨69,2,qeF,1,qew,qiu n,fun _ _ h=>qz (B:=tab) (cs:=qeE n) (lo:=qic n) (rs:=[.tmp 4]) Tryz.func69 (by kernel_rfl) qpf (by kernel_rfl) (by decide) (qf (qpe n) all_nil) h⟩
noncomputable def qCz(n:Nat):CL Tryz.prog:=⟨[qLE n,qpI n,qyK n,qrv n],[qCw n,qzr n,qwi n,qoV n,qpg n],0,fun _=>false⟩
noncomputable def qIG(n:Nat):Nat→St→PT (DEx×St):=fun _ _=>.fail
theorem qQK(n:Nat):qc (qCz n).c (qa Tryz.f37) 0=[]:=by kernel_rfl
theorem qQL:Tryz.f37.body=some (qa Tryz.f37):=by kernel_rfl
abbrev qDT:List Ar:=[.d T32]
abbrev qDU:List Ty:=[T37]
noncomputable def qKt(n:Nat)(x:qC qDT):Option (qk qDU):=(qh tab (qCz n) (qIG n) (qa Tryz.f37) 0 (qJ qDT 121 x)).run (qbM tab [.tmp 2] qDU)
noncomputable def qQM(n:Nat):Ct Tryz.prog:=⟨37,qDT,.ts qDU,qKt n,fun _ _ h=>qbO (B:=tab) (cs:=qCz n) (lo:=qIG n) (rs:=[.tmp 2]) Tryz.func37 (by kernel_rfl) qQL (by kernel_rfl) (by decide) (qf (qQK n) all_nil) h⟩
noncomputable def qzs(n:Nat):CL Tryz.prog:=⟨[],[],0,fun _=>false⟩
noncomputable def qF2(n:Nat):Nat→St→PT (DEx×St):=fun _ _=>.fail
theorem qOX(n:Nat):qc (qzs n).c (qa Tryz.f38) 0=[]:=by kernel_rfl
theorem qOY:Tryz.f38.body=some (qa Tryz.f38):=by kernel_rfl
abbrev qzt:List It:=[.v (.t 0) T44,.obj (.t 1) true 3 1,.v (.c 0 0) T3]
abbrev qyj:List (List It):=[[.v (.t 0) T4,.obj (.t 1) true 3 1,.v (.c 0 0) T3]]
noncomputable def qHi(n:Nat)(x:qb qzt):Option (qm qyj):=runW tab (qzs n) (qF2 n) (qa Tryz.f38) qzt 2 13 [.tmp 3] qyj x
noncomputable def qOZ(n:Nat):Cw Tryz.prog:=⟨38,2,qzt,1,qyj,qHi n,fun _ _ h=>qz (B:=tab) (cs:=qzs n) (lo:=qF2 n) (rs:=[.tmp 3]) Tryz.func38 (by kernel_rfl) qOY (by kernel_rfl) (by decide) (qf (qOX n) all_nil) h⟩
noncomputable def qbL(n:Nat):CL Tryz.prog:=⟨[],[qOZ n],0,fun _=>false⟩
noncomputable def qj5(n:Nat):Nat→St→PT (DEx×St):=fun _ _=>.fail
abbrev qcp:List It:=[.v (.t 0) T25,.v (.t 7) T3,.v (.t 8) T3,.fnc (.t 1) 38 [.box true 3 1],.v (.c 0 0) T3]
abbrev qdP:List (DEx×List It):=[(.exit 0,[.fnc (.t 1) 38 [.box true 3 1],.v (.c 0 0) T3]),(.ret,[.v (.t 4) T3,.fnc (.t 1) 38 [.box true 3 1],.v (.c 0 0) T3])]
noncomputable def qkn(n:Nat)(rec:qb qcp→Option (qg qdP))(s:qb qcp):Option (qg qdP):=(qh tab (qbL n) (qj5 n) (subC [true,false,true,false,false] (qa Tryz.f23)) 1 (mkS qcp 19 s)).run (Lp.leaf 19 qcp qdP rec)
noncomputable def qfZ(n:Nat):Lp:=⟨19,qcp,qdP,qe n (qkn n)⟩
theorem qsb(n:Nat):qc (qbL n).c (subC [true,false,true,false,false] (qa Tryz.f23)) 1=[]:=by kernel_rfl
theorem qqI(n:Nat)(st:St)(r:DEx×St)(h:((qfZ n).go st).Is r):DA Tryz.prog false (.loop (subC [true,false,true,false,false] (qa Tryz.f23))) st r:=Lp.ok (L:=qfZ n) (B:=tab) (cs:=qbL n) (lo:=qj5 n) (id:=0) rfl (qf (qsb n) all_nil) (fun _ _=>rfl) h
noncomputable def qko(n:Nat):Nat→St→PT (DEx×St):=fun k st=>match k with
 | 0=>(qfZ n).go st
 | _=>.fail
theorem qsK(n:Nat):qc (qbL n).c (qa Tryz.f23) 0=[(0,.loop (subC [true,false,true,false,false] (qa Tryz.f23)))]:=by kernel_rfl
theorem qsL:Tryz.f23.body=some (qa Tryz.f23):=by kernel_rfl
abbrev qf0:List It:=[.v (.t 0) T25,.fnc (.t 1) 38 [.box true 3 1],.v (.c 0 0) T3]
abbrev qfE:List (List It):=[[.v (.t 0) T3,.obj (.t 1) true 3 1,.v (.c 0 0) T3]]
noncomputable def qkG(n:Nat)(x:qb qf0):Option (qm qfE):=runW tab (qbL n) (qko n) (qa Tryz.f23) qf0 2 19 [.tmp 4] qfE x
noncomputable def qkH(n:Nat):Cw Tryz.prog:=⟨23,2,qf0,1,qfE,qkG n,fun _ _ h=>qz (B:=tab) (cs:=qbL n) (lo:=qko n) (rs:=[.tmp 4]) Tryz.func23 (by kernel_rfl) qsL (by kernel_rfl) (by decide) (qf (qsK n) (all_cons (fun st r h=>qqI n st r h) all_nil)) h⟩
noncomputable def qpJ(n:Nat):CL Tryz.prog:=⟨[qG7 n,qQM n],[qc9 n,qce n,qer n,qkH n],0,fun _=>false⟩
noncomputable def qHj(n:Nat):Nat→St→PT (DEx×St):=fun _ _=>.fail
abbrev qtt:List It:=[.v (.t 27) T26,.v (.t 28) T3,.v (.t 29) T3,.obj (.t 1) false 32 13,.v (.c 0 0) T32,.obj (.t 5) false 63 14,.v (.c 1 0) T32,.row (.c 1 13) false T44 44]
abbrev qxx:List (DEx×List It):=[(.exit 0,[.obj (.t 5) false 63 14,.v (.c 0 0) T32,.row (.c 0 13) false T44 44])]
noncomputable def qIH(n:Nat)(rec:qb qtt→Option (qg qxx))(s:qb qtt):Option (qg qxx):=(qh tab (qpJ n) (qHj n) (subC [true,true,true,true,false,true,false,false] (qa Tryz.f22)) 1 (mkS qtt 53 s)).run (Lp.leaf 53 qtt qxx rec)
noncomputable def qCA(n:Nat):Lp:=⟨53,qtt,qxx,qe n (qIH n)⟩
theorem qPJ(n:Nat):qc (qpJ n).c (subC [true,true,true,true,false,true,false,false] (qa Tryz.f22)) 1=[]:=by kernel_rfl
theorem qMI(n:Nat)(st:St)(r:DEx×St)(h:((qCA n).go st).Is r):DA Tryz.prog false (.loop (subC [true,true,true,true,false,true,false,false] (qa Tryz.f22))) st r:=Lp.ok (L:=qCA n) (B:=tab) (cs:=qpJ n) (lo:=qHj n) (id:=0) rfl (qf (qPJ n) all_nil) (fun _ _=>rfl) h
noncomputable def qII(n:Nat):Nat→St→PT (DEx×St):=fun k st=>match k with
 | 0=>(qCA n).go st
 | _=>.fail
theorem qQN(n:Nat):qc (qpJ n).c (qa Tryz.f22) 0=[(0,.loop (subC [true,true,true,true,false,true,false,false] (qa Tryz.f22)))]:=by kernel_rfl
theorem qQO:Tryz.f22.body=some (qa Tryz.f22):=by kernel_rfl
abbrev qCB:List It:=[.v (.t 0) T32]
abbrev qBc:List (List It):=[[.v (.t 1) T37,.obj (.t 0) false 63 14,.v (.c 0 0) T32,.row (.c 0 13) false T44 44],[.nilp (.t 0),.v (.t 1) T37]]
noncomputable def qKu(n:Nat)(x:qb qCB):Option (qm qBc):=runW tab (qpJ n) (qII n) (qa Tryz.f22) qCB 1 53 [.tmp 2,.tmp 3] qBc x
noncomputable def qKv(n:Nat):Cw Tryz.prog:=⟨22,1,qCB,2,qBc,qKu n,fun _ _ h=>qz (B:=tab) (cs:=qpJ n) (lo:=qII n) (rs:=[.tmp 2,.tmp 3]) Tryz.func22 (by kernel_rfl) qQO (by kernel_rfl) (by decide) (qf (qQN n) (all_cons (fun st r h=>qMI n st r h) all_nil)) h⟩
noncomputable def qh8(n:Nat):CL Tryz.prog:=⟨[],[],0,fun _=>false⟩
noncomputable def qxP(n:Nat):Nat→St→PT (DEx×St):=fun _ _=>.fail
abbrev qkp:List It:=[.v (.t 1) T3,.v (.t 11) T28,.v (.t 12) T3,.v (.t 13) T3,.obj (.t 0) true 63 14,.v (.c 0 0) T63,.obj (.t 4) false 75 3,.v (.c 1 0) T75]
abbrev qnh:List (DEx×List It):=[(.exit 0,[.v (.t 1) T3,.obj (.t 0) true 63 14,.v (.c 0 0) T63,.obj (.t 4) false 75 3,.v (.c 1 0) T75]),(.ret,[.obj (.t 0) true 63 14,.v (.c 0 0) T63,.obj (.t 4) false 75 3,.v (.c 1 0) T75])]
noncomputable def qyL(n:Nat)(rec:qb qkp→Option (qg qnh))(s:qb qkp):Option (qg qnh):=(qh tab (qh8 n) (qxP n) (subC [true,false,true,false,false] (qa Tryz.f39)) 1 (mkS qkp 25 s)).run (Lp.leaf 25 qkp qnh rec)
noncomputable def qsc(n:Nat):Lp:=⟨25,qkp,qnh,qe n (qyL n)⟩
theorem qHK(n:Nat):qc (qh8 n).c (subC [true,false,true,false,false] (qa Tryz.f39)) 1=[]:=by kernel_rfl
theorem qEI(n:Nat)(st:St)(r:DEx×St)(h:((qsc n).go st).Is r):DA Tryz.prog false (.loop (subC [true,false,true,false,false] (qa Tryz.f39))) st r:=Lp.ok (L:=qsc n) (B:=tab) (cs:=qh8 n) (lo:=qxP n) (id:=0) rfl (qf (qHK n) all_nil) (fun _ _=>rfl) h
noncomputable def qyM(n:Nat):Nat→St→PT (DEx×St):=fun k st=>match k with
 | 0=>(qsc n).go st
 | _=>.fail
theorem qIJ(n:Nat):qc (qh8 n).c (qa Tryz.f39) 0=[(0,.loop (subC [true,false,true,false,false] (qa Tryz.f39)))]:=by kernel_rfl
theorem qIK:Tryz.f39.body=some (qa Tryz.f39):=by kernel_rfl
abbrev qsd:List It:=[.v (.t 1) T3,.obj (.t 0) true 63 14,.v (.c 0 0) T63]
abbrev qqZ:List (List It):=[[.v (.t 0) T75,.obj (.t 1) true 63 14,.v (.c 0 0) T63]]
noncomputable def qz1(n:Nat)(x:qb qsd):Option (qm qqZ):=runW tab (qh8 n) (qyM n) (qa Tryz.f39) qsd 2 25 [.cell 4 75] qqZ x
noncomputable def qIL(n:Nat):Cw Tryz.prog:=⟨39,2,qsd,1,qqZ,qz1 n,fun _ _ h=>qz (B:=tab) (cs:=qh8 n) (lo:=qyM n) (rs:=[.cell 4 75]) Tryz.func39 (by kernel_rfl) qIK (by kernel_rfl) (by decide) (qf (qIJ n) (all_cons (fun st r h=>qEI n st r h) all_nil)) h⟩
noncomputable def qtu(n:Nat):CL Tryz.prog:=⟨[],[],0,fun _=>false⟩
noncomputable def qz2(n:Nat):Nat→St→PT (DEx×St):=fun _ _=>.fail
theorem qJZ(n:Nat):qc (qtu n).c (qa Tryz.f71) 0=[]:=by kernel_rfl
theorem qJ0:Tryz.f71.body=some (qa Tryz.f71):=by kernel_rfl
abbrev qtv:List It:=[.v (.t 1) T3,.v (.t 2) T3,.obj (.t 0) true 63 14,.v (.c 0 0) T63]
abbrev qse:List (List It):=[[.v (.t 0) T4,.obj (.t 1) true 63 14,.v (.c 0 0) T63]]
noncomputable def qBd(n:Nat)(x:qb qtv):Option (qm qse):=runW tab (qtu n) (qz2 n) (qa Tryz.f71) qtv 3 19 [.tmp 6] qse x
noncomputable def qBe(n:Nat):Cw Tryz.prog:=⟨71,3,qtv,1,qse,qBd n,fun _ _ h=>qz (B:=tab) (cs:=qtu n) (lo:=qz2 n) (rs:=[.tmp 6]) Tryz.func71 (by kernel_rfl) qJ0 (by kernel_rfl) (by decide) (qf (qJZ n) all_nil) h⟩
noncomputable def qnF(n:Nat):CL Tryz.prog:=⟨[],[qBe n],0,fun _=>false⟩
noncomputable def qt8(n:Nat):Nat→St→PT (DEx×St):=fun _ _=>.fail
theorem qDV(n:Nat):qc (qnF n).c (qa Tryz.f73) 0=[]:=by kernel_rfl
theorem qDW:Tryz.f73.body=some (qa Tryz.f73):=by kernel_rfl
abbrev qnG:List It:=[.v (.t 0) T55,.obj (.t 1) true 3 1,.v (.c 0 0) T3,.obj (.t 2) true 58 1,.obj (.c 1 0) true 63 14,.v (.c 2 0) T63,.obj (.t 3) true 3 1,.v (.c 3 0) T3]
abbrev qmT:List (List It):=[[.v (.t 0) T4,.obj (.t 1) true 3 1,.v (.c 0 0) T3,.obj (.t 2) true 58 1,.obj (.c 1 0) true 63 14,.v (.c 2 0) T63,.obj (.t 4) true 3 1,.v (.c 3 0) T3]]
noncomputable def qu0(n:Nat)(x:qb qnG):Option (qm qmT):=runW tab (qnF n) (qt8 n) (qa Tryz.f73) qnG 4 17 [.tmp 5] qmT x
noncomputable def qu1(n:Nat):Cw Tryz.prog:=⟨73,4,qnG,1,qmT,qu0 n,fun _ _ h=>qz (B:=tab) (cs:=qnF n) (lo:=qt8 n) (rs:=[.tmp 5]) Tryz.func73 (by kernel_rfl) qDW (by kernel_rfl) (by decide) (qf (qDV n) all_nil) h⟩
noncomputable def q8(n:Nat):CL Tryz.prog:=⟨[],[qu1 n],0,fun _=>false⟩
noncomputable def qhr(n:Nat):Nat→St→PT (DEx×St):=fun _ _=>.fail
abbrev qbA:List It:=[.v (.t 0) T29,.v (.t 7) T3,.v (.t 8) T3,.fnc (.t 1) 73 [.box true 3 1,.box true 58 1,.box true 3 1],.v (.c 0 0) T3,.obj (.c 1 0) true 63 14,.v (.c 3 0) T63,.v (.c 2 0) T3]
abbrev qcl:List (DEx×List It):=[(.exit 0,[.fnc (.t 1) 73 [.box true 3 1,.box true 58 1,.box true 3 1],.v (.c 0 0) T3,.obj (.c 1 0) true 63 14,.v (.c 3 0) T63,.v (.c 2 0) T3]),(.ret,[.v (.t 4) T3,.fnc (.t 1) 73 [.box true 3 1,.box true 58 1,.box true 3 1],.v (.c 0 0) T3,.obj (.c 1 0) true 63 14,.v (.c 3 0) T63,.v (.c 2 0) T3])]
noncomputable def qhM(n:Nat)(rec:qb qbA→Option (qg qcl))(s:qb qbA):Option (qg qcl):=(qh tab (q8 n) (qhr n) (subC [true,false,true,false,false] (qa Tryz.f111)) 1 (mkS qbA 19 s)).run (Lp.leaf 19 qbA qcl rec)
noncomputable def qd8(n:Nat):Lp:=⟨19,qbA,qcl,qe n (qhM n)⟩
theorem qnQ(n:Nat):qc (q8 n).c (subC [true,false,true,false,false] (qa Tryz.f111)) 1=[]:=by kernel_rfl
theorem qmU(n:Nat)(st:St)(r:DEx×St)(h:((qd8 n).go st).Is r):DA Tryz.prog false (.loop (subC [true,false,true,false,false] (qa Tryz.f111))) st r:=Lp.ok (L:=qd8 n) (B:=tab) (cs:=q8 n) (lo:=qhr n) (id:=0) rfl (qf (qnQ n) all_nil) (fun _ _=>rfl) h
noncomputable def qhN(n:Nat):Nat→St→PT (DEx×St):=fun k st=>match k with
 | 0=>(qd8 n).go st
 | _=>.fail
theorem qov(n:Nat):qc (q8 n).c (qa Tryz.f111) 0=[(0,.loop (subC [true,false,true,false,false] (qa Tryz.f111)))]:=by kernel_rfl
theorem qow:Tryz.f111.body=some (qa Tryz.f111):=by kernel_rfl
abbrev qd9:List It:=[.v (.t 0) T29,.fnc (.t 1) 73 [.box true 3 1,.box true 58 1,.box true 3 1],.v (.c 0 0) T3,.obj (.c 1 0) true 63 14,.v (.c 3 0) T63,.v (.c 2 0) T3]
abbrev qdZ:List (List It):=[[.v (.t 0) T3,.obj (.t 1) true 3 1,.obj (.t 2) true 58 1,.obj (.t 3) true 3 1,.v (.c 0 0) T3,.obj (.c 1 0) true 63 14,.v (.c 3 0) T63,.v (.c 2 0) T3]]
noncomputable def qh2(n:Nat)(x:qb qd9):Option (qm qdZ):=runW tab (q8 n) (qhN n) (qa Tryz.f111) qd9 2 19 [.tmp 4] qdZ x
noncomputable def qox(n:Nat):Cw Tryz.prog:=⟨111,2,qd9,1,qdZ,qh2 n,fun _ _ h=>qz (B:=tab) (cs:=q8 n) (lo:=qhN n) (rs:=[.tmp 4]) Tryz.func111 (by kernel_rfl) qow (by kernel_rfl) (by decide) (qf (qov n) (all_cons (fun st r h=>qmU n st r h) all_nil)) h⟩
noncomputable def qdB(n:Nat):CL Tryz.prog:=⟨[],[qu1 n,qc0 n,qox n],0,fun _=>false⟩
noncomputable def qgM(n:Nat):Nat→St→PT (DEx×St):=fun _ _=>.fail
theorem qni(n:Nat):qc (qdB n).c (qa Tryz.f72) 0=[]:=by kernel_rfl
theorem qnj:Tryz.f72.body=some (qa Tryz.f72):=by kernel_rfl
abbrev qdC:List It:=[.v (.t 0) T29,.fnc (.t 1) 73 [.box true 3 1,.box true 58 1,.box true 3 1],.v (.c 0 0) T3,.obj (.c 1 0) true 63 14,.v (.c 3 0) T63,.v (.c 2 0) T3]
abbrev qdl:List (List It):=[[.v (.t 0) T4,.obj (.t 1) true 3 1,.obj (.t 2) true 58 1,.obj (.t 3) true 3 1,.v (.c 0 0) T3,.obj (.c 1 0) true 63 14,.v (.c 3 0) T63,.v (.c 2 0) T3]]
noncomputable def qg6(n:Nat)(x:qb qdC):Option (qm qdl):=runW tab (qdB n) (qgM n) (qa Tryz.f72) qdC 2 9 [.tmp 4] qdl x
noncomputable def qnk(n:Nat):Cw Tryz.prog:=⟨72,2,qdC,1,qdl,qg6 n,fun _ _ h=>qz (B:=tab) (cs:=qdB n) (lo:=qgM n) (rs:=[.tmp 4]) Tryz.func72 (by kernel_rfl) qnj (by kernel_rfl) (by decide) (qf (qni n) all_nil) h⟩
noncomputable def qph(n:Nat):CL Tryz.prog:=⟨[],[qBe n,qcG n,qnk n],0,fun _=>false⟩
noncomputable def qv0(n:Nat):Nat→St→PT (DEx×St):=fun _ _=>.fail
theorem qF3(n:Nat):qc (qph n).c (qa Tryz.f40) 0=[]:=by kernel_rfl
theorem qF4:Tryz.f40.body=some (qa Tryz.f40):=by kernel_rfl
abbrev qpi:List It:=[.v (.t 1) T3,.v (.t 2) T3,.obj (.t 0) true 63 14,.v (.c 0 0) T63]
abbrev qoy:List (List It):=[[.v (.t 0) T4,.obj (.t 1) true 63 14,.v (.c 0 0) T63]]
noncomputable def qw4(n:Nat)(x:qb qpi):Option (qm qoy):=runW tab (qph n) (qv0 n) (qa Tryz.f40) qpi 3 22 [.tmp 6] qoy x
noncomputable def qF5(n:Nat):Cw Tryz.prog:=⟨40,3,qpi,1,qoy,qw4 n,fun _ _ h=>qz (B:=tab) (cs:=qph n) (lo:=qv0 n) (rs:=[.tmp 6]) Tryz.func40 (by kernel_rfl) qF4 (by kernel_rfl) (by decide) (qf (qF3 n) all_nil) h⟩
noncomputable def qHL(n:Nat):CL Tryz.prog:=⟨[],[],0,fun _=>false⟩
noncomputable def qNc(n:Nat):Nat→St→PT (DEx×St):=fun _ _=>.fail
theorem qUf(n:Nat):qc (qHL n).c (qa Tryz.f41) 0=[]:=by kernel_rfl
theorem qUg:Tryz.f41.body=some (qa Tryz.f41):=by kernel_rfl
abbrev qJ1:List Ar:=[.d T3,.d T3]
abbrev qJ2:List Ty:=[T3]
noncomputable def qO0(n:Nat)(x:qC qJ1):Option (qk qJ2):=(qh tab (qHL n) (qNc n) (qa Tryz.f41) 0 (qJ qJ1 10 x)).run (qbM tab [.tmp 4] qJ2)
noncomputable def qUh(n:Nat):Ct Tryz.prog:=⟨41,qJ1,.ts qJ2,qO0 n,fun _ _ h=>qbO (B:=tab) (cs:=qHL n) (lo:=qNc n) (rs:=[.tmp 4]) Tryz.func41 (by kernel_rfl) qUg (by kernel_rfl) (by decide) (qf (qUf n) all_nil) h⟩
noncomputable def qtw(n:Nat):CL Tryz.prog:=⟨[qUh n],[qIL n,qF5 n],0,fun _=>false⟩
noncomputable def qz3(n:Nat):Nat→St→PT (DEx×St):=fun _ _=>.fail
theorem qJ3(n:Nat):qc (qtw n).c (qa Tryz.f25) 0=[]:=by kernel_rfl
theorem qJ4:Tryz.f25.body=some (qa Tryz.f25):=by kernel_rfl
abbrev qtx:List It:=[.v (.t 1) T44,.v (.t 2) T68,.obj (.t 0) true 63 14,.v (.c 0 0) T63]
abbrev qsf:List (List It):=[[.v (.t 0) T3,.v (.t 1) T3,.obj (.t 2) true 63 14,.v (.c 0 0) T63]]
noncomputable def qBf(n:Nat)(x:qb qtx):Option (qm qsf):=runW tab (qtw n) (qz3 n) (qa Tryz.f25) qtx 3 81 [.tmp 6,.tmp 7] qsf x
noncomputable def qBg(n:Nat):Cw Tryz.prog:=⟨25,3,qtx,2,qsf,qBf n,fun _ _ h=>qz (B:=tab) (cs:=qtw n) (lo:=qz3 n) (rs:=[.tmp 6,.tmp 7]) Tryz.func25 (by kernel_rfl) qJ4 (by kernel_rfl) (by decide) (qf (qJ3 n) all_nil) h⟩
noncomputable def qyk(n:Nat):CL Tryz.prog:=⟨[],[],0,fun _=>false⟩
noncomputable def qEi(n:Nat):Nat→St→PT (DEx×St):=fun _ _=>.fail
theorem qNN(n:Nat):qc (qyk n).c (qa Tryz.f24) 0=[]:=by kernel_rfl
theorem qNO:Tryz.f24.body=some (qa Tryz.f24):=by kernel_rfl
abbrev qyl:List It:=[.v (.t 0) T44,.obj (.t 1) true 3 1,.v (.c 0 0) T3]
abbrev qw5:List (List It):=[[.v (.t 0) T4,.obj (.t 1) true 3 1,.v (.c 0 0) T3]]
noncomputable def qF6(n:Nat)(x:qb qyl):Option (qm qw5):=runW tab (qyk n) (qEi n) (qa Tryz.f24) qyl 2 8 [.tmp 3] qw5 x
noncomputable def qNP(n:Nat):Cw Tryz.prog:=⟨24,2,qyl,1,qw5,qF6 n,fun _ _ h=>qz (B:=tab) (cs:=qyk n) (lo:=qEi n) (rs:=[.tmp 3]) Tryz.func24 (by kernel_rfl) qNO (by kernel_rfl) (by decide) (qf (qNN n) all_nil) h⟩
noncomputable def qbF(n:Nat):CL Tryz.prog:=⟨[],[qNP n],0,fun _=>false⟩
noncomputable def qjI(n:Nat):Nat→St→PT (DEx×St):=fun _ _=>.fail
abbrev qch:List It:=[.v (.t 0) T25,.v (.t 7) T3,.v (.t 8) T3,.fnc (.t 1) 24 [.box true 3 1],.v (.c 0 0) T3]
abbrev qdq:List (DEx×List It):=[(.exit 0,[.fnc (.t 1) 24 [.box true 3 1],.v (.c 0 0) T3]),(.ret,[.v (.t 4) T3,.fnc (.t 1) 24 [.box true 3 1],.v (.c 0 0) T3])]
noncomputable def qj6(n:Nat)(rec:qb qch→Option (qg qdq))(s:qb qch):Option (qg qdq):=(qh tab (qbF n) (qjI n) (subC [true,false,true,false,false] (qa Tryz.f23)) 1 (mkS qch 19 s)).run (Lp.leaf 19 qch qdq rec)
noncomputable def qfF(n:Nat):Lp:=⟨19,qch,qdq,qe n (qj6 n)⟩
theorem qrB(n:Nat):qc (qbF n).c (subC [true,false,true,false,false] (qa Tryz.f23)) 1=[]:=by kernel_rfl
theorem qqh(n:Nat)(st:St)(r:DEx×St)(h:((qfF n).go st).Is r):DA Tryz.prog false (.loop (subC [true,false,true,false,false] (qa Tryz.f23))) st r:=Lp.ok (L:=qfF n) (B:=tab) (cs:=qbF n) (lo:=qjI n) (id:=0) rfl (qf (qrB n) all_nil) (fun _ _=>rfl) h
noncomputable def qj7(n:Nat):Nat→St→PT (DEx×St):=fun k st=>match k with
 | 0=>(qfF n).go st
 | _=>.fail
theorem qsg(n:Nat):qc (qbF n).c (qa Tryz.f23) 0=[(0,.loop (subC [true,false,true,false,false] (qa Tryz.f23)))]:=by kernel_rfl
theorem qsh:Tryz.f23.body=some (qa Tryz.f23):=by kernel_rfl
abbrev qfG:List It:=[.v (.t 0) T25,.fnc (.t 1) 24 [.box true 3 1],.v (.c 0 0) T3]
abbrev qfv:List (List It):=[[.v (.t 0) T3,.obj (.t 1) true 3 1,.v (.c 0 0) T3]]
noncomputable def qkq(n:Nat)(x:qb qfG):Option (qm qfv):=runW tab (qbF n) (qj7 n) (qa Tryz.f23) qfG 2 19 [.tmp 4] qfv x
noncomputable def qsi(n:Nat):Cw Tryz.prog:=⟨23,2,qfG,1,qfv,qkq n,fun _ _ h=>qz (B:=tab) (cs:=qbF n) (lo:=qj7 n) (rs:=[.tmp 4]) Tryz.func23 (by kernel_rfl) qsh (by kernel_rfl) (by decide) (qf (qsg n) (all_cons (fun st r h=>qqh n st r h) all_nil)) h⟩
noncomputable def qpK(n:Nat):CL Tryz.prog:=⟨[],[qKv n,qc9 n,qce n,qer n,qkH n,qsi n,qBg n],2,fun _=>false⟩
noncomputable def qHk(n:Nat):Nat→St→PT (DEx×St):=fun _ _=>.fail
abbrev qty:List It:=[.v (.t 4) T3,.v (.t 5) T3,.v (.t 8) T3,.v (.t 36) T42,.v (.t 37) T3,.v (.t 38) T3,.obj (.t 7) false 63 14,.v (.c 0 0) T63]
abbrev qxy:List (DEx×List It):=[(.exit 0,[.v (.t 4) T3,.v (.t 5) T3])]
noncomputable def qIM(n:Nat)(rec:qb qty→Option (qg qxy))(s:qb qty):Option (qg qxy):=(qh tab (qpK n) (qHk n) (subC [true,true,true,true,true,false,true,false,false] (qa Tryz.f9)) 1 (mkS qty 64 s)).run (Lp.leaf 64 qty qxy rec)
noncomputable def qCC(n:Nat):Lp:=⟨64,qty,qxy,qe n (qIM n)⟩
theorem qPK(n:Nat):qc (qpK n).c (subC [true,true,true,true,true,false,true,false,false] (qa Tryz.f9)) 1=[]:=by kernel_rfl
theorem qMJ(n:Nat)(st:St)(r:DEx×St)(h:((qCC n).go st).Is r):DA Tryz.prog false (.loop (subC [true,true,true,true,true,false,true,false,false] (qa Tryz.f9))) st r:=Lp.ok (L:=qCC n) (B:=tab) (cs:=qpK n) (lo:=qHk n) (id:=0) rfl (qf (qPK n) all_nil) (fun _ _=>rfl) h
noncomputable def qIN(n:Nat):Nat→St→PT (DEx×St):=fun k st=>match k with
 | 0=>(qCC n).go st
 | _=>.fail
theorem qQP(n:Nat):qc (qpK n).c (qa Tryz.f9) 0=[(0,.loop (subC [true,true,true,true,true,false,true,false,false] (qa Tryz.f9)))]:=by kernel_rfl
theorem qQQ:Tryz.f9.body=some (qa Tryz.f9):=by kernel_rfl
abbrev qDX:List Ar:=[.d T32,.d T3]
abbrev qDY:List Ty:=[T3,T3,T37]
noncomputable def qKw(n:Nat)(x:qC qDX):Option (qk qDY):=(qh tab (qpK n) (qIN n) (qa Tryz.f9) 0 (qJ qDX 64 x)).run (qbM tab [.tmp 4,.tmp 5,.tmp 6] qDY)
noncomputable def qKx(n:Nat):Ct Tryz.prog:=⟨9,qDX,.ts qDY,qKw n,fun _ _ h=>qbO (B:=tab) (cs:=qpK n) (lo:=qIN n) (rs:=[.tmp 4,.tmp 5,.tmp 6]) Tryz.func9 (by kernel_rfl) qQQ (by kernel_rfl) (by decide) (qf (qQP n) (all_cons (fun st r h=>qMJ n st r h) all_nil)) h⟩
end Go.Proofs.YtklkodbibffohaaGreat
/- Printed: what functions of the program compute. -/
namespace Go.Proofs.YtklkodbibffohaaGreat
open Go Go.Proofs Go.RowKit
set_option maxRecDepth 20000
noncomputable def qym(n:Nat):CL Tryz.prog:=⟨[qsN n],[],0,fun _=>false⟩
noncomputable def qEj(n:Nat):Nat→St→PT (DEx×St):=fun _ _=>.fail
theorem qNQ(n:Nat):qc (qym n).c (qa Tryz.f43) 0=[]:=by kernel_rfl
theorem qNR:Tryz.f43.body=some (qa Tryz.f43):=by kernel_rfl
abbrev qyn:List It:=[.v (.t 0) T3,.v (.t 1) T3,.obj (.t 2) true 3 1,.v (.c 0 0) T3,.obj (.t 3) true 26 1,.v (.c 1 0) T26]
abbrev qw6:List (List It):=[[.v (.t 0) T3,.obj (.t 1) true 3 1,.v (.c 0 0) T3,.obj (.t 2) true 26 1,.v (.c 1 0) T26]]
noncomputable def qF7(n:Nat)(x:qb qyn):Option (qm qw6):=runW tab (qym n) (qEj n) (qa Tryz.f43) qyn 4 22 [.tmp 6] qw6 x
noncomputable def qzu(n:Nat):Cw Tryz.prog:=⟨43,4,qyn,1,qw6,qF7 n,fun _ _ h=>qz (B:=tab) (cs:=qym n) (lo:=qEj n) (rs:=[.tmp 6]) Tryz.func43 (by kernel_rfl) qNR (by kernel_rfl) (by decide) (qf (qNQ n) all_nil) h⟩
noncomputable def qx(n:Nat):CL Tryz.prog:=⟨[],[qzu n],0,fun _=>false⟩
noncomputable def qiv(n:Nat):Nat→St→PT (DEx×St):=fun _ _=>.fail
abbrev qbU:List It:=[.v (.t 1) T3,.v (.t 2) T3,.v (.t 8) T3,.v (.t 9) T3,.row (.t 0) true T3 3,.fnc (.t 3) 43 [.box true 3 1,.box true 26 1],.v (.c 1 0) T3,.v (.c 2 0) T26]
abbrev qcN:List (DEx×List It):=[(.exit 2,[.v (.t 1) T3,.v (.t 2) T3,.v (.t 8) T3,.row (.t 0) true T3 3,.fnc (.t 3) 43 [.box true 3 1,.box true 26 1],.v (.c 1 0) T3,.v (.c 2 0) T26])]
noncomputable def qiS(n:Nat)(rec:qb qbU→Option (qg qcN))(s:qb qbU):Option (qg qcN):=(qh tab (qx n) (qiv n) (subC [true,false,false,true,false,false,true,false,false] (qa Tryz.f112)) 2 (mkS qbU 53 s)).run (Lp.leaf 53 qbU qcN rec)
noncomputable def qe8(n:Nat):Lp:=⟨53,qbU,qcN,qe n (qiS n)⟩
theorem qpL(n:Nat):qc (qx n).c (subC [true,false,false,true,false,false,true,false,false] (qa Tryz.f112)) 2=[]:=by kernel_rfl
theorem qoz(n:Nat)(st:St)(r:DEx×St)(h:((qe8 n).go st).Is r):DA Tryz.prog false (.loop (subC [true,false,false,true,false,false,true,false,false] (qa Tryz.f112))) st r:=Lp.ok (L:=qe8 n) (B:=tab) (cs:=qx n) (lo:=qiv n) (id:=1) rfl (qf (qpL n) all_nil) (fun _ _=>rfl) h
noncomputable def qiw(n:Nat):Nat→St→PT (DEx×St):=fun k st=>match k with
 | 1=>(qe8 n).go st
 | _=>.fail
abbrev qbV:List It:=[.v (.t 1) T3,.v (.t 2) T3,.v (.t 8) T3,.row (.t 0) true T3 3,.fnc (.t 3) 43 [.box true 3 1,.box true 26 1],.v (.c 1 0) T3,.v (.c 2 0) T26]
abbrev qcO:List (DEx×List It):=[(.exit 0,[.row (.t 0) true T3 3,.fnc (.t 3) 43 [.box true 3 1,.box true 26 1],.v (.c 1 0) T3,.v (.c 2 0) T26])]
noncomputable def qiT(n:Nat)(rec:qb qbV→Option (qg qcO))(s:qb qbV):Option (qg qcO):=(qh tab (qx n) (qiw n) (subC [true,false,false] (qa Tryz.f112)) 1 (mkS qbV 53 s)).run (Lp.leaf 53 qbV qcO rec)
noncomputable def qe9(n:Nat):Lp:=⟨53,qbV,qcO,qe n (qiT n)⟩
theorem qpM(n:Nat):qc (qx n).c (subC [true,false,false] (qa Tryz.f112)) 1=[(1,.loop (subC [true,false,false,true,false,false,true,false,false] (qa Tryz.f112)))]:=by kernel_rfl
theorem qoA(n:Nat)(st:St)(r:DEx×St)(h:((qe9 n).go st).Is r):DA Tryz.prog false (.loop (subC [true,false,false] (qa Tryz.f112))) st r:=Lp.ok (L:=qe9 n) (B:=tab) (cs:=qx n) (lo:=qiw n) (id:=0) rfl (qf (qpM n) (all_cons (fun st r h=>qoz n st r h) all_nil)) (fun _ _=>rfl) h
noncomputable def qiU(n:Nat):Nat→St→PT (DEx×St):=fun k st=>match k with
 | 0=>(qe9 n).go st
 | _=>.fail
theorem qqi(n:Nat):qc (qx n).c (qa Tryz.f112) 0=[(0,.loop (subC [true,false,false] (qa Tryz.f112)))]:=by kernel_rfl
theorem qqj:Tryz.f112.body=some (qa Tryz.f112):=by kernel_rfl
abbrev qfa:List It:=[.v (.t 1) T3,.v (.t 2) T3,.row (.t 0) true T3 3,.fnc (.t 3) 43 [.box true 3 1,.box true 26 1],.v (.c 1 0) T3,.v (.c 2 0) T26]
abbrev qeQ:List (List It):=[[.row (.t 0) true T3 3,.obj (.t 1) true 3 1,.obj (.t 2) true 26 1,.v (.c 1 0) T3,.v (.c 2 0) T26]]
noncomputable def qjg(n:Nat)(x:qb qfa):Option (qm qeQ):=runW tab (qx n) (qiU n) (qa Tryz.f112) qfa 4 53 [] qeQ x
noncomputable def qqk(n:Nat):Cw Tryz.prog:=⟨112,4,qfa,0,qeQ,qjg n,fun _ _ h=>qz (B:=tab) (cs:=qx n) (lo:=qiU n) (rs:=[]) Tryz.func112 (by kernel_rfl) qqj (by kernel_rfl) (by decide) (qf (qqi n) (all_cons (fun st r h=>qoA n st r h) all_nil)) h⟩
noncomputable def qt(n:Nat):CL Tryz.prog:=⟨[],[qzu n,qqk n],0,fun _=>false⟩
noncomputable def qkI(n:Nat):Nat→St→PT (DEx×St):=fun _ _=>.fail
abbrev qcw:List It:=[.v (.t 1) T3,.v (.t 6) T3,.v (.t 7) T3,.v (.t 8) T3,.row (.t 0) true T3 3,.fnc (.t 2) 43 [.box true 3 1,.box true 26 1],.v (.c 1 0) T3,.v (.c 2 0) T26]
abbrev qej:List (DEx×List It):=[(.exit 0,[.v (.t 1) T3,.v (.t 6) T3,.v (.t 7) T3,.row (.t 0) true T3 3,.fnc (.t 2) 43 [.box true 3 1,.box true 26 1],.v (.c 1 0) T3,.v (.c 2 0) T26])]
noncomputable def qk8(n:Nat)(rec:qb qcw→Option (qg qej))(s:qb qcw):Option (qg qej):=(qh tab (qt n) (qkI n) (subC [true,true,false,false,false] (qa Tryz.f74)) 1 (mkS qcw 63 s)).run (Lp.leaf 63 qcw qej rec)
noncomputable def qgN(n:Nat):Lp:=⟨63,qcw,qej,qe n (qk8 n)⟩
theorem qtz(n:Nat):qc (qt n).c (subC [true,true,false,false,false] (qa Tryz.f74)) 1=[]:=by kernel_rfl
theorem qrC(n:Nat)(st:St)(r:DEx×St)(h:((qgN n).go st).Is r):DA Tryz.prog false (.loop (subC [true,true,false,false,false] (qa Tryz.f74))) st r:=Lp.ok (L:=qgN n) (B:=tab) (cs:=qt n) (lo:=qkI n) (id:=0) rfl (qf (qtz n) all_nil) (fun _ _=>rfl) h
noncomputable def qkJ(n:Nat):Nat→St→PT (DEx×St):=fun _ _=>.fail
abbrev qcx:List It:=[.v (.t 1) T3,.v (.t 6) T3,.v (.t 7) T3,.v (.t 8) T3,.row (.t 0) true T3 3,.fnc (.t 2) 43 [.box true 3 1,.box true 26 1],.v (.c 1 0) T3,.v (.c 2 0) T26]
abbrev qek:List (DEx×List It):=[(.exit 4,[.v (.t 1) T3,.v (.t 6) T3,.v (.t 7) T3,.row (.t 0) true T3 3,.fnc (.t 2) 43 [.box true 3 1,.box true 26 1],.v (.c 1 0) T3,.v (.c 2 0) T26])]
noncomputable def qk9(n:Nat)(rec:qb qcx→Option (qg qek))(s:qb qcx):Option (qg qek):=(qh tab (qt n) (qkJ n) (subC [true,true,true,true,false,false,true,false,true,false,false,false] (qa Tryz.f74)) 3 (mkS qcx 63 s)).run (Lp.leaf 63 qcx qek rec)
noncomputable def qgO(n:Nat):Lp:=⟨63,qcx,qek,qe n (qk9 n)⟩
theorem qtA(n:Nat):qc (qt n).c (subC [true,true,true,true,false,false,true,false,true,false,false,false] (qa Tryz.f74)) 3=[]:=by kernel_rfl
theorem qrD(n:Nat)(st:St)(r:DEx×St)(h:((qgO n).go st).Is r):DA Tryz.prog false (.loop (subC [true,true,true,true,false,false,true,false,true,false,false,false] (qa Tryz.f74))) st r:=Lp.ok (L:=qgO n) (B:=tab) (cs:=qt n) (lo:=qkJ n) (id:=2) rfl (qf (qtA n) all_nil) (fun _ _=>rfl) h
noncomputable def qkK(n:Nat):Nat→St→PT (DEx×St):=fun k st=>match k with
 | 2=>(qgO n).go st
 | _=>.fail
abbrev qcy:List It:=[.v (.t 1) T3,.v (.t 6) T3,.row (.t 0) true T3 3,.fnc (.t 2) 43 [.box true 3 1,.box true 26 1],.v (.c 1 0) T3,.v (.c 2 0) T26]
abbrev qel:List (DEx×List It):=[(.exit 2,[.row (.t 0) true T3 3,.fnc (.t 2) 43 [.box true 3 1,.box true 26 1],.v (.c 1 0) T3,.v (.c 2 0) T26])]
noncomputable def qla(n:Nat)(rec:qb qcy→Option (qg qel))(s:qb qcy):Option (qg qel):=(qh tab (qt n) (qkK n) (subC [true,true,true,true,false,false] (qa Tryz.f74)) 2 (mkS qcy 63 s)).run (Lp.leaf 63 qcy qel rec)
noncomputable def qgP(n:Nat):Lp:=⟨63,qcy,qel,qe n (qla n)⟩
theorem qtB(n:Nat):qc (qt n).c (subC [true,true,true,true,false,false] (qa Tryz.f74)) 2=[(2,.loop (subC [true,true,true,true,false,false,true,false,true,false,false,false] (qa Tryz.f74)))]:=by kernel_rfl
theorem qrE(n:Nat)(st:St)(r:DEx×St)(h:((qgP n).go st).Is r):DA Tryz.prog false (.loop (subC [true,true,true,true,false,false] (qa Tryz.f74))) st r:=Lp.ok (L:=qgP n) (B:=tab) (cs:=qt n) (lo:=qkK n) (id:=1) rfl (qf (qtB n) (all_cons (fun st r h=>qrD n st r h) all_nil)) (fun _ _=>rfl) h
noncomputable def qlb(n:Nat):Nat→St→PT (DEx×St):=fun k st=>match k with
 | 0=>(qgN n).go st
 | 1=>(qgP n).go st
 | _=>.fail
theorem qtX(n:Nat):qc (qt n).c (qa Tryz.f74) 0=[(0,.loop (subC [true,true,false,false,false] (qa Tryz.f74))),(1,.loop (subC [true,true,true,true,false,false] (qa Tryz.f74)))]:=by kernel_rfl
theorem qtY:Tryz.f74.body=some (qa Tryz.f74):=by kernel_rfl
abbrev qgQ:List It:=[.v (.t 1) T3,.row (.t 0) true T3 3,.fnc (.t 2) 43 [.box true 3 1,.box true 26 1],.v (.c 1 0) T3,.v (.c 2 0) T26]
abbrev qgk:List (List It):=[[.row (.t 0) true T3 3,.obj (.t 1) true 3 1,.obj (.t 2) true 26 1,.v (.c 1 0) T3,.v (.c 2 0) T26]]
noncomputable def qlE(n:Nat)(x:qb qgQ):Option (qm qgk):=runW tab (qt n) (qlb n) (qa Tryz.f74) qgQ 3 63 [] qgk x
noncomputable def qtZ(n:Nat):Cw Tryz.prog:=⟨74,3,qgQ,0,qgk,qlE n,fun _ _ h=>qz (B:=tab) (cs:=qt n) (lo:=qlb n) (rs:=[]) Tryz.func74 (by kernel_rfl) qtY (by kernel_rfl) (by decide) (qf (qtX n) (all_cons (fun st r h=>qrC n st r h) (all_cons (fun st r h=>qrE n st r h) all_nil))) h⟩
noncomputable def qgl(n:Nat):CL Tryz.prog:=⟨[],[qzu n,qtZ n],0,fun _=>false⟩
noncomputable def qkL(n:Nat):Nat→St→PT (DEx×St):=fun _ _=>.fail
theorem qtC(n:Nat):qc (qgl n).c (qa Tryz.f42) 0=[]:=by kernel_rfl
theorem qtD:Tryz.f42.body=some (qa Tryz.f42):=by kernel_rfl
abbrev qgm:List It:=[.row (.t 0) true T3 3,.fnc (.t 1) 43 [.box true 3 1,.box true 26 1],.v (.c 1 0) T3,.v (.c 2 0) T26]
abbrev qf1:List (List It):=[[.row (.t 0) true T3 3,.obj (.t 1) true 3 1,.obj (.t 2) true 26 1,.v (.c 1 0) T3,.v (.c 2 0) T26]]
noncomputable def qlc(n:Nat)(x:qb qgm):Option (qm qf1):=runW tab (qgl n) (qkL n) (qa Tryz.f42) qgm 2 9 [] qf1 x
noncomputable def qtE(n:Nat):Cw Tryz.prog:=⟨42,2,qgm,0,qf1,qlc n,fun _ _ h=>qz (B:=tab) (cs:=qgl n) (lo:=qkL n) (rs:=[]) Tryz.func42 (by kernel_rfl) qtD (by kernel_rfl) (by decide) (qf (qtC n) all_nil) h⟩
noncomputable def qjy(n:Nat):CL Tryz.prog:=⟨[],[qtE n],0,fun _=>false⟩
noncomputable def qHl(n:Nat):Nat→St→PT (DEx×St):=fun _ _=>.fail
abbrev qtF:List It:=[.v (.t 7) T3,.v (.t 19) T26,.v (.t 20) T3,.v (.t 21) T3,.obj (.t 2) false 3 1,.v (.c 0 0) T3,.obj (.t 3) false 26 1,.v (.c 1 0) T26,.row (.t 5) false T3 3,.row (.t 6) false T3 3]
abbrev qxz:List (DEx×List It):=[(.exit 0,[.v (.t 7) T3,.obj (.t 2) false 3 1,.v (.c 0 0) T3,.obj (.t 3) false 26 1,.v (.c 1 0) T26,.row (.t 5) false T3 3,.row (.t 6) false T3 3])]
noncomputable def qIO(n:Nat)(rec:qb qtF→Option (qg qxz))(s:qb qtF):Option (qg qxz):=(qh tab (qjy n) (qHl n) (subC [true,true,true,true,false,true,false,false] (qa Tryz.f28)) 1 (mkS qtF 63 s)).run (Lp.leaf 63 qtF qxz rec)
noncomputable def qCD(n:Nat):Lp:=⟨63,qtF,qxz,qe n (qIO n)⟩
theorem qPL(n:Nat):qc (qjy n).c (subC [true,true,true,true,false,true,false,false] (qa Tryz.f28)) 1=[]:=by kernel_rfl
theorem qMK(n:Nat)(st:St)(r:DEx×St)(h:((qCD n).go st).Is r):DA Tryz.prog false (.loop (subC [true,true,true,true,false,true,false,false] (qa Tryz.f28))) st r:=Lp.ok (L:=qCD n) (B:=tab) (cs:=qjy n) (lo:=qHl n) (id:=0) rfl (qf (qPL n) all_nil) (fun _ _=>rfl) h
noncomputable def qHm(n:Nat):Nat→St→PT (DEx×St):=fun _ _=>.fail
abbrev qtG:List It:=[.v (.t 50) T3,.v (.t 51) T3,.row (.t 5) false T3 3,.row (.t 6) false T3 3,.sub (.t 49) 1]
abbrev qxA:List (DEx×List It):=[(.exit 2,[.row (.t 5) false T3 3])]
noncomputable def qIP(n:Nat)(rec:qb qtG→Option (qg qxA))(s:qb qtG):Option (qg qxA):=(qh tab (qjy n) (qHm n) (subC [true,true,true,true,true,true,false,true,false,false] (qa Tryz.f28)) 2 (mkS qtG 63 s)).run (Lp.leaf 63 qtG qxA rec)
noncomputable def qCE(n:Nat):Lp:=⟨63,qtG,qxA,qe n (qIP n)⟩
theorem qPM(n:Nat):qc (qjy n).c (subC [true,true,true,true,true,true,false,true,false,false] (qa Tryz.f28)) 2=[]:=by kernel_rfl
theorem qML(n:Nat)(st:St)(r:DEx×St)(h:((qCE n).go st).Is r):DA Tryz.prog false (.loop (subC [true,true,true,true,true,true,false,true,false,false] (qa Tryz.f28))) st r:=Lp.ok (L:=qCE n) (B:=tab) (cs:=qjy n) (lo:=qHm n) (id:=1) rfl (qf (qPM n) all_nil) (fun _ _=>rfl) h
noncomputable def qIQ(n:Nat):Nat→St→PT (DEx×St):=fun k st=>match k with
 | 0=>(qCD n).go st
 | 1=>(qCE n).go st
 | _=>.fail
theorem qQR(n:Nat):qc (qjy n).c (qa Tryz.f28) 0=[(0,.loop (subC [true,true,true,true,false,true,false,false] (qa Tryz.f28))),(1,.loop (subC [true,true,true,true,true,true,false,true,false,false] (qa Tryz.f28)))]:=by kernel_rfl
theorem qQS:Tryz.f28.body=some (qa Tryz.f28):=by kernel_rfl
abbrev qDZ:List Ar:=[.d T3,.d T26]
abbrev qD0:List Ty:=[T26]
noncomputable def qKy(n:Nat)(x:qC qDZ):Option (qk qD0):=(qh tab (qjy n) (qIQ n) (qa Tryz.f28) 0 (qJ qDZ 63 x)).run (qbM tab [.tmp 4] qD0)
noncomputable def qQT(n:Nat):Ct Tryz.prog:=⟨28,qDZ,.ts qD0,qKy n,fun _ _ h=>qbO (B:=tab) (cs:=qjy n) (lo:=qIQ n) (rs:=[.tmp 4]) Tryz.func28 (by kernel_rfl) qQS (by kernel_rfl) (by decide) (qf (qQR n) (all_cons (fun st r h=>qMK n st r h) (all_cons (fun st r h=>qML n st r h) all_nil))) h⟩
noncomputable def qjz(n:Nat):CL Tryz.prog:=⟨[qQT n],[],0,fun _=>false⟩
noncomputable def qz4(n:Nat):Nat→St→PT (DEx×St):=fun _ _=>.fail
abbrev qlV:List It:=[.v (.t 2) T3,.v (.t 19) T26,.v (.t 20) T3,.v (.t 21) T3,.obj (.t 3) true 58 1,.obj (.c 0 0) true 63 14,.v (.c 1 0) T63,.obj (.t 4) true 26 1,.row (.c 2 0) true T3 3]
abbrev qpj:List (DEx×List It):=[(.exit 0,[.obj (.t 3) true 58 1,.obj (.c 0 0) true 63 14,.v (.c 1 0) T63,.obj (.t 4) true 26 1,.row (.c 2 0) true T3 3])]
noncomputable def qBh(n:Nat)(rec:qb qlV→Option (qg qpj))(s:qb qlV):Option (qg qpj):=(qh tab (qjz n) (qz4 n) (subC [true,false,false] (qa Tryz.f27)) 1 (mkS qlV 36 s)).run (Lp.leaf 36 qlV qpj rec)
noncomputable def quL(n:Nat):Lp:=⟨36,qlV,qpj,qe n (qBh n)⟩
theorem qJ5(n:Nat):qc (qjz n).c (subC [true,false,false] (qa Tryz.f27)) 1=[]:=by kernel_rfl
theorem qGB(n:Nat)(st:St)(r:DEx×St)(h:((quL n).go st).Is r):DA Tryz.prog false (.loop (subC [true,false,false] (qa Tryz.f27))) st r:=Lp.ok (L:=quL n) (B:=tab) (cs:=qjz n) (lo:=qz4 n) (id:=0) rfl (qf (qJ5 n) all_nil) (fun _ _=>rfl) h
noncomputable def qBi(n:Nat):Nat→St→PT (DEx×St):=fun k st=>match k with
 | 0=>(quL n).go st
 | _=>.fail
theorem qKK(n:Nat):qc (qjz n).c (qa Tryz.f27) 0=[(0,.loop (subC [true,false,false] (qa Tryz.f27)))]:=by kernel_rfl
theorem qKL:Tryz.f27.body=some (qa Tryz.f27):=by kernel_rfl
abbrev quM:List It:=[.v (.t 0) T3,.v (.t 1) T3,.v (.t 2) T3,.obj (.t 3) true 58 1,.obj (.c 0 0) true 63 14,.v (.c 1 0) T63,.obj (.t 4) true 26 1,.row (.c 2 0) true T3 3]
abbrev qtH:List (List It):=[[.obj (.t 0) true 58 1,.obj (.c 0 0) true 63 14,.v (.c 1 0) T63,.obj (.t 2) true 26 1,.row (.c 2 0) true T3 3]]
noncomputable def qBN(n:Nat)(x:qb quM):Option (qm qtH):=runW tab (qjz n) (qBi n) (qa Tryz.f27) quM 5 36 [] qtH x
noncomputable def qKM(n:Nat):Cw Tryz.prog:=⟨27,5,quM,0,qtH,qBN n,fun _ _ h=>qz (B:=tab) (cs:=qjz n) (lo:=qBi n) (rs:=[]) Tryz.func27 (by kernel_rfl) qKL (by kernel_rfl) (by decide) (qf (qKK n) (all_cons (fun st r h=>qGB n st r h) all_nil)) h⟩
noncomputable def qdE(n:Nat):CL Tryz.prog:=⟨[],[qKv n,qBg n,qKM n],2,fun _=>false⟩
noncomputable def qDh(n:Nat):Nat→St→PT (DEx×St):=fun _ _=>.fail
abbrev qoW:List It:=[.v (.t 6) T3,.v (.t 7) T3,.v (.t 48) T25,.v (.t 49) T3,.v (.t 50) T3,.v (.t 55) T42,.v (.t 56) T3,.v (.t 57) T3,.obj (.t 4) false 58 1,.obj (.c 0 0) false 63 14,.v (.c 1 0) T63,.obj (.t 8) false 26 1,.row (.c 2 0) false T3 3,.obj (.t 11) false 44 5,.v (.c 4 0) T44,.fnc (.t 9) 27 [.al 0,.al 2]]
abbrev qsR:List (DEx×List It):=[(.exit 2,[.v (.t 6) T3,.v (.t 7) T3,.v (.t 48) T25,.v (.t 49) T3,.v (.t 50) T3,.obj (.t 4) false 58 1,.obj (.c 0 0) false 63 14,.v (.c 1 0) T63,.obj (.t 8) false 26 1,.row (.c 2 0) false T3 3,.fnc (.t 9) 27 [.al 0,.al 2]])]
noncomputable def qEk(n:Nat)(rec:qb qoW→Option (qg qsR))(s:qb qoW):Option (qg qsR):=(qh tab (qdE n) (qDh n) (subC [true,true,true,true,true,true,false,true,false,false,true,true,false,false,true,true,false,false] (qa Tryz.f11)) 2 (mkS qoW 130 s)).run (Lp.leaf 130 qoW qsR rec)
noncomputable def qyo(n:Nat):Lp:=⟨130,qoW,qsR,qe n (qEk n)⟩
theorem qMM(n:Nat):qc (qdE n).c (subC [true,true,true,true,true,true,false,true,false,false,true,true,false,false,true,true,false,false] (qa Tryz.f11)) 2=[]:=by kernel_rfl
theorem qJ6(n:Nat)(st:St)(r:DEx×St)(h:((qyo n).go st).Is r):DA Tryz.prog false (.loop (subC [true,true,true,true,true,true,false,true,false,false,true,true,false,false,true,true,false,false] (qa Tryz.f11))) st r:=Lp.ok (L:=qyo n) (B:=tab) (cs:=qdE n) (lo:=qDh n) (id:=1) rfl (qf (qMM n) all_nil) (fun _ _=>rfl) h
noncomputable def qDi(n:Nat):Nat→St→PT (DEx×St):=fun k st=>match k with
 | 1=>(qyo n).go st
 | _=>.fail
abbrev qoX:List It:=[.v (.t 6) T3,.v (.t 7) T3,.v (.t 48) T25,.v (.t 49) T3,.v (.t 50) T3,.obj (.t 4) false 58 1,.obj (.c 0 0) false 63 14,.v (.c 1 0) T63,.obj (.t 8) false 26 1,.row (.c 2 0) false T3 3,.fnc (.t 9) 27 [.al 0,.al 2]]
abbrev qsS:List (DEx×List It):=[(.exit 0,[.obj (.t 4) false 58 1,.obj (.c 0 0) false 63 14,.v (.c 1 0) T63,.obj (.t 8) false 26 1,.row (.c 2 0) false T3 3,.fnc (.t 9) 27 [.al 0,.al 2]])]
noncomputable def qEl(n:Nat)(rec:qb qoX→Option (qg qsS))(s:qb qoX):Option (qg qsS):=(qh tab (qdE n) (qDi n) (subC [true,true,true,true,true,true,false,true,false,false] (qa Tryz.f11)) 1 (mkS qoX 130 s)).run (Lp.leaf 130 qoX qsS rec)
noncomputable def qyp(n:Nat):Lp:=⟨130,qoX,qsS,qe n (qEl n)⟩
theorem qMN(n:Nat):qc (qdE n).c (subC [true,true,true,true,true,true,false,true,false,false] (qa Tryz.f11)) 1=[(1,.loop (subC [true,true,true,true,true,true,false,true,false,false,true,true,false,false,true,true,false,false] (qa Tryz.f11)))]:=by kernel_rfl
theorem qJ7(n:Nat)(st:St)(r:DEx×St)(h:((qyp n).go st).Is r):DA Tryz.prog false (.loop (subC [true,true,true,true,true,true,false,true,false,false] (qa Tryz.f11))) st r:=Lp.ok (L:=qyp n) (B:=tab) (cs:=qdE n) (lo:=qDi n) (id:=0) rfl (qf (qMN n) (all_cons (fun st r h=>qJ6 n st r h) all_nil)) (fun _ _=>rfl) h
noncomputable def qDj(n:Nat):Nat→St→PT (DEx×St):=fun _ _=>.fail
abbrev qoY:List It:=[.v (.t 95) T30,.v (.t 96) T3,.v (.t 97) T3,.obj (.t 4) false 58 1,.obj (.c 0 0) false 63 14,.v (.c 1 0) T63,.obj (.t 8) false 26 1,.row (.c 2 0) false T3 3,.fnc (.t 9) 27 [.al 0,.al 2]]
abbrev qsT:List (DEx×List It):=[(.exit 4,[.obj (.t 8) false 26 1,.row (.c 0 0) false T3 3])]
noncomputable def qEm(n:Nat)(rec:qb qoY→Option (qg qsT))(s:qb qoY):Option (qg qsT):=(qh tab (qdE n) (qDj n) (subC [true,true,true,true,true,true,true,false,true,false,false] (qa Tryz.f11)) 3 (mkS qoY 130 s)).run (Lp.leaf 130 qoY qsT rec)
noncomputable def qyq(n:Nat):Lp:=⟨130,qoY,qsT,qe n (qEm n)⟩
theorem qMO(n:Nat):qc (qdE n).c (subC [true,true,true,true,true,true,true,false,true,false,false] (qa Tryz.f11)) 3=[]:=by kernel_rfl
theorem qJ8(n:Nat)(st:St)(r:DEx×St)(h:((qyq n).go st).Is r):DA Tryz.prog false (.loop (subC [true,true,true,true,true,true,true,false,true,false,false] (qa Tryz.f11))) st r:=Lp.ok (L:=qyq n) (B:=tab) (cs:=qdE n) (lo:=qDj n) (id:=2) rfl (qf (qMO n) all_nil) (fun _ _=>rfl) h
noncomputable def qEn(n:Nat):Nat→St→PT (DEx×St):=fun k st=>match k with
 | 0=>(qyp n).go st
 | 2=>(qyq n).go st
 | _=>.fail
theorem qNS(n:Nat):qc (qdE n).c (qa Tryz.f11) 0=[(0,.loop (subC [true,true,true,true,true,true,false,true,false,false] (qa Tryz.f11))),(2,.loop (subC [true,true,true,true,true,true,true,false,true,false,false] (qa Tryz.f11)))]:=by kernel_rfl
theorem qNT:Tryz.f11.body=some (qa Tryz.f11):=by kernel_rfl
abbrev qzv:List Ar:=[.d T32]
abbrev qzw:List Ty:=[T26,T37]
noncomputable def qF8(n:Nat)(x:qC qzv):Option (qk qzw):=(qh tab (qdE n) (qEn n) (qa Tryz.f11) 0 (qJ qzv 130 x)).run (qbM tab [.tmp 2,.tmp 3] qzw)
noncomputable def qNU(n:Nat):Ct Tryz.prog:=⟨11,qzv,.ts qzw,qF8 n,fun _ _ h=>qbO (B:=tab) (cs:=qdE n) (lo:=qEn n) (rs:=[.tmp 2,.tmp 3]) Tryz.func11 (by kernel_rfl) qNT (by kernel_rfl) (by decide) (qf (qNS n) (all_cons (fun st r h=>qJ7 n st r h) (all_cons (fun st r h=>qJ8 n st r h) all_nil))) h⟩
end Go.Proofs.YtklkodbibffohaaGreat
/- Printed: what functions of the program compute. -/
namespace Go.Proofs.YtklkodbibffohaaGreat
open Go Go.Proofs Go.RowKit
set_option maxRecDepth 20000
noncomputable def qsj(n:Nat):CL Tryz.prog:=⟨[],[],0,fun _=>false⟩
noncomputable def qyN(n:Nat):Nat→St→PT (DEx×St):=fun _ _=>.fail
theorem qIR(n:Nat):qc (qsj n).c (qa Tryz.f18) 0=[]:=by kernel_rfl
theorem qIS:Tryz.f18.body=some (qa Tryz.f18):=by kernel_rfl
abbrev qtI:List Ar:=[.d T3,.d T3,.d T3]
abbrev qtJ:List Ty:=[T4]
noncomputable def qz5(n:Nat)(x:qC qtI):Option (qk qtJ):=(qh tab (qsj n) (qyN n) (qa Tryz.f18) 0 (qJ qtI 15 x)).run (qbM tab [.tmp 6] qtJ)
noncomputable def qn7(n:Nat):Ct Tryz.prog:=⟨18,qtI,.ts qtJ,qz5 n,fun _ _ h=>qbO (B:=tab) (cs:=qsj n) (lo:=qyN n) (rs:=[.tmp 6]) Tryz.func18 (by kernel_rfl) qIS (by kernel_rfl) (by decide) (qf (qIR n) all_nil) h⟩
noncomputable def qf5(n:Nat):CL Tryz.prog:=⟨[qn7 n],[],0,fun _=>false⟩
noncomputable def qu2(n:Nat):Nat→St→PT (DEx×St):=fun _ _=>.fail
abbrev qix:List It:=[.v (.t 0) T26,.v (.t 3) T3,.v (.t 4) T3]
abbrev qlk:List (DEx×List It):=[(.exit 0,[.v (.t 0) T26,.v (.t 3) T3]),(.ret,[.v (.t 2) T4])]
noncomputable def qv1(n:Nat)(rec:qb qix→Option (qg qlk))(s:qb qix):Option (qg qlk):=(qh tab (qf5 n) (qu2 n) (subC [true,true,false,true,false,false] (qa Tryz.f20)) 1 (mkS qix 30 s)).run (Lp.leaf 30 qix qlk rec)
noncomputable def qpk(n:Nat):Lp:=⟨30,qix,qlk,qe n (qv1 n)⟩
theorem qEJ(n:Nat):qc (qf5 n).c (subC [true,true,false,true,false,false] (qa Tryz.f20)) 1=[]:=by kernel_rfl
theorem qCF(n:Nat)(st:St)(r:DEx×St)(h:((qpk n).go st).Is r):DA Tryz.prog false (.loop (subC [true,true,false,true,false,false] (qa Tryz.f20))) st r:=Lp.ok (L:=qpk n) (B:=tab) (cs:=qf5 n) (lo:=qu2 n) (id:=0) rfl (qf (qEJ n) all_nil) (fun _ _=>rfl) h
noncomputable def qv2(n:Nat):Nat→St→PT (DEx×St):=fun k st=>match k with
 | 0=>(qpk n).go st
 | _=>.fail
theorem qF9(n:Nat):qc (qf5 n).c (qa Tryz.f20) 0=[(0,.loop (subC [true,true,false,true,false,false] (qa Tryz.f20)))]:=by kernel_rfl
theorem qGa:Tryz.f20.body=some (qa Tryz.f20):=by kernel_rfl
abbrev qql:List Ar:=[.d T26]
abbrev qqm:List Ty:=[T4]
noncomputable def qw7(n:Nat)(x:qC qql):Option (qk qqm):=(qh tab (qf5 n) (qv2 n) (qa Tryz.f20) 0 (qJ qql 30 x)).run (qbM tab [.tmp 2] qqm)
noncomputable def qGb(n:Nat):Ct Tryz.prog:=⟨20,qql,.ts qqm,qw7 n,fun _ _ h=>qbO (B:=tab) (cs:=qf5 n) (lo:=qv2 n) (rs:=[.tmp 2]) Tryz.func20 (by kernel_rfl) qGa (by kernel_rfl) (by decide) (qf (qF9 n) (all_cons (fun st r h=>qCF n st r h) all_nil)) h⟩
noncomputable def qsk(n:Nat):CL Tryz.prog:=⟨[qn7 n],[],0,fun _=>false⟩
noncomputable def qyO(n:Nat):Nat→St→PT (DEx×St):=fun _ _=>.fail
theorem qIT(n:Nat):qc (qsk n).c (qa Tryz.f21) 0=[]:=by kernel_rfl
theorem qIU:Tryz.f21.body=some (qa Tryz.f21):=by kernel_rfl
abbrev qtK:List Ar:=[.d T32,.d T3]
abbrev qtL:List Ty:=[T4]
noncomputable def qz6(n:Nat)(x:qC qtK):Option (qk qtL):=(qh tab (qsk n) (qyO n) (qa Tryz.f21) 0 (qJ qtK 10 x)).run (qbM tab [.tmp 4] qtL)
noncomputable def qIV(n:Nat):Ct Tryz.prog:=⟨21,qtK,.ts qtL,qz6 n,fun _ _ h=>qbO (B:=tab) (cs:=qsk n) (lo:=qyO n) (rs:=[.tmp 4]) Tryz.func21 (by kernel_rfl) qIU (by kernel_rfl) (by decide) (qf (qIT n) all_nil) h⟩
noncomputable def qcA(n:Nat):CL Tryz.prog:=⟨[qn7 n],[],0,fun _=>false⟩
noncomputable def qu3(n:Nat):Nat→St→PT (DEx×St):=fun _ _=>.fail
abbrev qiy:List It:=[.v (.t 3) T3,.v (.t 5) T3,.obj (.t 1) false 32 13,.v (.c 0 0) T32,.obj (.t 4) false 75 3,.v (.c 1 0) T75]
abbrev qll:List (DEx×List It):=[(.exit 2,[.v (.t 3) T3,.obj (.t 1) false 32 13,.v (.c 0 0) T32]),(.ret,[.v (.t 2) T4])]
noncomputable def qv3(n:Nat)(rec:qb qiy→Option (qg qll))(s:qb qiy):Option (qg qll):=(qh tab (qcA n) (qu3 n) (subC [true,false,true,false,false,true,false,false,true,true,true,false,false] (qa Tryz.f19)) 2 (mkS qiy 55 s)).run (Lp.leaf 55 qiy qll rec)
noncomputable def qpl(n:Nat):Lp:=⟨55,qiy,qll,qe n (qv3 n)⟩
theorem qEK(n:Nat):qc (qcA n).c (subC [true,false,true,false,false,true,false,false,true,true,true,false,false] (qa Tryz.f19)) 2=[]:=by kernel_rfl
theorem qCG(n:Nat)(st:St)(r:DEx×St)(h:((qpl n).go st).Is r):DA Tryz.prog false (.loop (subC [true,false,true,false,false,true,false,false,true,true,true,false,false] (qa Tryz.f19))) st r:=Lp.ok (L:=qpl n) (B:=tab) (cs:=qcA n) (lo:=qu3 n) (id:=1) rfl (qf (qEK n) all_nil) (fun _ _=>rfl) h
noncomputable def qu4(n:Nat):Nat→St→PT (DEx×St):=fun k st=>match k with
 | 1=>(qpl n).go st
 | _=>.fail
abbrev qiz:List It:=[.v (.t 3) T3,.obj (.t 1) false 32 13,.v (.c 0 0) T32]
abbrev qlm:List (DEx×List It):=[(.exit 0,[.obj (.t 1) false 32 13,.v (.c 0 0) T32]),(.ret,[.v (.t 2) T4])]
noncomputable def qv4(n:Nat)(rec:qb qiz→Option (qg qlm))(s:qb qiz):Option (qg qlm):=(qh tab (qcA n) (qu4 n) (subC [true,false,true,false,false] (qa Tryz.f19)) 1 (mkS qiz 55 s)).run (Lp.leaf 55 qiz qlm rec)
noncomputable def qpm(n:Nat):Lp:=⟨55,qiz,qlm,qe n (qv4 n)⟩
theorem qEL(n:Nat):qc (qcA n).c (subC [true,false,true,false,false] (qa Tryz.f19)) 1=[(1,.loop (subC [true,false,true,false,false,true,false,false,true,true,true,false,false] (qa Tryz.f19)))]:=by kernel_rfl
theorem qCH(n:Nat)(st:St)(r:DEx×St)(h:((qpm n).go st).Is r):DA Tryz.prog false (.loop (subC [true,false,true,false,false] (qa Tryz.f19))) st r:=Lp.ok (L:=qpm n) (B:=tab) (cs:=qcA n) (lo:=qu4 n) (id:=0) rfl (qf (qEL n) (all_cons (fun st r h=>qCG n st r h) all_nil)) (fun _ _=>rfl) h
noncomputable def qv5(n:Nat):Nat→St→PT (DEx×St):=fun k st=>match k with
 | 0=>(qpm n).go st
 | _=>.fail
theorem qGc(n:Nat):qc (qcA n).c (qa Tryz.f19) 0=[(0,.loop (subC [true,false,true,false,false] (qa Tryz.f19)))]:=by kernel_rfl
theorem qGd:Tryz.f19.body=some (qa Tryz.f19):=by kernel_rfl
abbrev qqn:List Ar:=[.d T32]
abbrev qqo:List Ty:=[T4]
noncomputable def qw8(n:Nat)(x:qC qqn):Option (qk qqo):=(qh tab (qcA n) (qv5 n) (qa Tryz.f19) 0 (qJ qqn 55 x)).run (qbM tab [.tmp 2] qqo)
noncomputable def qGe(n:Nat):Ct Tryz.prog:=⟨19,qqn,.ts qqo,qw8 n,fun _ _ h=>qbO (B:=tab) (cs:=qcA n) (lo:=qv5 n) (rs:=[.tmp 2]) Tryz.func19 (by kernel_rfl) qGd (by kernel_rfl) (by decide) (qf (qGc n) (all_cons (fun st r h=>qCH n st r h) all_nil)) h⟩
noncomputable def qcc(n:Nat):CL Tryz.prog:=⟨[qJF n,qn7 n,qGe n,qGb n,qIV n],[],0,fun _=>false⟩
noncomputable def qyP(n:Nat):Nat→St→PT (DEx×St):=fun _ _=>.fail
abbrev qld:List It:=[.v (.t 4) T3,.obj (.t 1) false 32 13,.v (.c 0 0) T32]
abbrev qn8:List (DEx×List It):=[(.exit 0,[.obj (.t 1) false 32 13,.v (.c 0 0) T32]),(.ret,[.v (.t 2) T37])]
noncomputable def qz7(n:Nat)(rec:qb qld→Option (qg qn8))(s:qb qld):Option (qg qn8):=(qh tab (qcc n) (qyP n) (subC [true,true,true,false,true,false,false] (qa Tryz.f8)) 1 (mkS qld 173 s)).run (Lp.leaf 173 qld qn8 rec)
noncomputable def qtM(n:Nat):Lp:=⟨173,qld,qn8,qe n (qz7 n)⟩
theorem qIW(n:Nat):qc (qcc n).c (subC [true,true,true,false,true,false,false] (qa Tryz.f8)) 1=[]:=by kernel_rfl
theorem qGf(n:Nat)(st:St)(r:DEx×St)(h:((qtM n).go st).Is r):DA Tryz.prog false (.loop (subC [true,true,true,false,true,false,false] (qa Tryz.f8))) st r:=Lp.ok (L:=qtM n) (B:=tab) (cs:=qcc n) (lo:=qyP n) (id:=0) rfl (qf (qIW n) all_nil) (fun _ _=>rfl) h
noncomputable def qyQ(n:Nat):Nat→St→PT (DEx×St):=fun _ _=>.fail
abbrev qle:List It:=[.v (.t 5) T3,.obj (.t 1) false 32 13,.v (.c 0 0) T32]
abbrev qn9:List (DEx×List It):=[(.exit 2,[.obj (.t 1) false 32 13,.v (.c 0 0) T32]),(.ret,[.v (.t 2) T37])]
noncomputable def qz8(n:Nat)(rec:qb qle→Option (qg qn9))(s:qb qle):Option (qg qn9):=(qh tab (qcc n) (qyQ n) (subC [true,true,true,true,false,true,false,false] (qa Tryz.f8)) 2 (mkS qle 173 s)).run (Lp.leaf 173 qle qn9 rec)
noncomputable def qtN(n:Nat):Lp:=⟨173,qle,qn9,qe n (qz8 n)⟩
theorem qIX(n:Nat):qc (qcc n).c (subC [true,true,true,true,false,true,false,false] (qa Tryz.f8)) 2=[]:=by kernel_rfl
theorem qGg(n:Nat)(st:St)(r:DEx×St)(h:((qtN n).go st).Is r):DA Tryz.prog false (.loop (subC [true,true,true,true,false,true,false,false] (qa Tryz.f8))) st r:=Lp.ok (L:=qtN n) (B:=tab) (cs:=qcc n) (lo:=qyQ n) (id:=1) rfl (qf (qIX n) all_nil) (fun _ _=>rfl) h
noncomputable def qyR(n:Nat):Nat→St→PT (DEx×St):=fun _ _=>.fail
abbrev qlf:List It:=[.v (.t 6) T3,.obj (.t 1) false 32 13,.v (.c 0 0) T32]
abbrev qoa:List (DEx×List It):=[(.exit 4,[.obj (.t 1) false 32 13,.v (.c 0 0) T32]),(.ret,[.v (.t 2) T37])]
noncomputable def qz9(n:Nat)(rec:qb qlf→Option (qg qoa))(s:qb qlf):Option (qg qoa):=(qh tab (qcc n) (qyR n) (subC [true,true,true,true,true,false,true,false,false] (qa Tryz.f8)) 3 (mkS qlf 173 s)).run (Lp.leaf 173 qlf qoa rec)
noncomputable def qtO(n:Nat):Lp:=⟨173,qlf,qoa,qe n (qz9 n)⟩
theorem qIY(n:Nat):qc (qcc n).c (subC [true,true,true,true,true,false,true,false,false] (qa Tryz.f8)) 3=[]:=by kernel_rfl
theorem qGh(n:Nat)(st:St)(r:DEx×St)(h:((qtO n).go st).Is r):DA Tryz.prog false (.loop (subC [true,true,true,true,true,false,true,false,false] (qa Tryz.f8))) st r:=Lp.ok (L:=qtO n) (B:=tab) (cs:=qcc n) (lo:=qyR n) (id:=2) rfl (qf (qIY n) all_nil) (fun _ _=>rfl) h
noncomputable def qAa(n:Nat):Nat→St→PT (DEx×St):=fun k st=>match k with
 | 0=>(qtM n).go st
 | 1=>(qtN n).go st
 | 2=>(qtO n).go st
 | _=>.fail
theorem qJ9(n:Nat):qc (qcc n).c (qa Tryz.f8) 0=[(0,.loop (subC [true,true,true,false,true,false,false] (qa Tryz.f8))),(1,.loop (subC [true,true,true,true,false,true,false,false] (qa Tryz.f8))),(2,.loop (subC [true,true,true,true,true,false,true,false,false] (qa Tryz.f8)))]:=by kernel_rfl
theorem qKa:Tryz.f8.body=some (qa Tryz.f8):=by kernel_rfl
abbrev quN:List Ar:=[.d T32]
abbrev quO:List Ty:=[T37]
noncomputable def qBj(n:Nat)(x:qC quN):Option (qk quO):=(qh tab (qcc n) (qAa n) (qa Tryz.f8) 0 (qJ quN 173 x)).run (qbM tab [.tmp 2] quO)
noncomputable def qBk(n:Nat):Ct Tryz.prog:=⟨8,quN,.ts quO,qBj n,fun _ _ h=>qbO (B:=tab) (cs:=qcc n) (lo:=qAa n) (rs:=[.tmp 2]) Tryz.func8 (by kernel_rfl) qKa (by kernel_rfl) (by decide) (qf (qJ9 n) (all_cons (fun st r h=>qGf n st r h) (all_cons (fun st r h=>qGg n st r h) (all_cons (fun st r h=>qGh n st r h) all_nil)))) h⟩
noncomputable def qjA(n:Nat):CL Tryz.prog:=⟨[qFw n,qKD n],[],0,fun _=>false⟩
noncomputable def qAb(n:Nat):Nat→St→PT (DEx×St):=fun _ _=>.fail
abbrev qlW:List It:=[.v (.t 4) T3,.obj (.t 1) false 32 13,.v (.c 0 0) T32,.obj (.t 2) false 32 13,.v (.c 1 0) T32,.obj (.t 3) false 32 13,.v (.c 2 0) T24,.v (.c 2 2) T25,.v (.c 2 3) T3,.v (.c 2 4) T26,.row (.c 2 5) false T26 26,.v (.c 2 6) T28,.v (.c 2 7) T29,.v (.c 2 8) T30,.v (.c 2 9) T3,.v (.c 2 10) T3,.v (.c 2 11) T3,.v (.c 2 12) T3]
abbrev qpn:List (DEx×List It):=[(.exit 0,[.obj (.t 1) false 32 13,.v (.c 0 0) T32,.obj (.t 2) false 32 13,.v (.c 1 0) T32,.obj (.t 3) false 32 13,.v (.c 2 0) T24,.v (.c 2 2) T25,.v (.c 2 3) T3,.v (.c 2 4) T26,.row (.c 2 5) false T26 26,.v (.c 2 6) T28,.v (.c 2 7) T29,.v (.c 2 8) T30,.v (.c 2 9) T3,.v (.c 2 10) T3,.v (.c 2 11) T3,.v (.c 2 12) T3])]
noncomputable def qBl(n:Nat)(rec:qb qlW→Option (qg qpn))(s:qb qlW):Option (qg qpn):=(qh tab (qjA n) (qAb n) (subC [true,true,true,true,true,true,false,true,false,false] (qa Tryz.f6)) 1 (mkS qlW 55 s)).run (Lp.leaf 55 qlW qpn rec)
noncomputable def quP(n:Nat):Lp:=⟨55,qlW,qpn,qe n (qBl n)⟩
theorem qKb(n:Nat):qc (qjA n).c (subC [true,true,true,true,true,true,false,true,false,false] (qa Tryz.f6)) 1=[]:=by kernel_rfl
theorem qGC(n:Nat)(st:St)(r:DEx×St)(h:((quP n).go st).Is r):DA Tryz.prog false (.loop (subC [true,true,true,true,true,true,false,true,false,false] (qa Tryz.f6))) st r:=Lp.ok (L:=quP n) (B:=tab) (cs:=qjA n) (lo:=qAb n) (id:=0) rfl (qf (qKb n) all_nil) (fun _ _=>rfl) h
noncomputable def qBm(n:Nat):Nat→St→PT (DEx×St):=fun k st=>match k with
 | 0=>(quP n).go st
 | _=>.fail
theorem qKN(n:Nat):qc (qjA n).c (qa Tryz.f6) 0=[(0,.loop (subC [true,true,true,true,true,true,false,true,false,false] (qa Tryz.f6)))]:=by kernel_rfl
theorem qKO:Tryz.f6.body=some (qa Tryz.f6):=by kernel_rfl
abbrev qvu:List Ar:=[.d T32]
abbrev qvv:List Ty:=[T32]
noncomputable def qBO(n:Nat)(x:qC qvu):Option (qk qvv):=(qh tab (qjA n) (qBm n) (qa Tryz.f6) 0 (qJ qvu 55 x)).run (qbM tab [.cell 2 32] qvv)
noncomputable def qKP(n:Nat):Ct Tryz.prog:=⟨6,qvu,.ts qvv,qBO n,fun _ _ h=>qbO (B:=tab) (cs:=qjA n) (lo:=qBm n) (rs:=[.cell 2 32]) Tryz.func6 (by kernel_rfl) qKO (by kernel_rfl) (by decide) (qf (qKN n) (all_cons (fun st r h=>qGC n st r h) all_nil)) h⟩
noncomputable def qka(n:Nat):CL Tryz.prog:=⟨[qLz n],[],0,fun _=>false⟩
noncomputable def qBn(n:Nat):Nat→St→PT (DEx×St):=fun _ _=>.fail
abbrev qmF:List It:=[.v (.t 3) T3,.obj (.t 1) false 32 13,.v (.c 0 0) T32]
abbrev qqB:List (DEx×List It):=[(.exit 0,[]),(.ret,[.v (.t 2) T4])]
noncomputable def qBP(n:Nat)(rec:qb qmF→Option (qg qqB))(s:qb qmF):Option (qg qqB):=(qh tab (qka n) (qBn n) (subC [true,true,false,true,false,false] (qa Tryz.f12)) 1 (mkS qmF 53 s)).run (Lp.leaf 53 qmF qqB rec)
noncomputable def qvw(n:Nat):Lp:=⟨53,qmF,qqB,qe n (qBP n)⟩
theorem qKQ(n:Nat):qc (qka n).c (subC [true,true,false,true,false,false] (qa Tryz.f12)) 1=[]:=by kernel_rfl
theorem qHM(n:Nat)(st:St)(r:DEx×St)(h:((qvw n).go st).Is r):DA Tryz.prog false (.loop (subC [true,true,false,true,false,false] (qa Tryz.f12))) st r:=Lp.ok (L:=qvw n) (B:=tab) (cs:=qka n) (lo:=qBn n) (id:=0) rfl (qf (qKQ n) all_nil) (fun _ _=>rfl) h
noncomputable def qBQ(n:Nat):Nat→St→PT (DEx×St):=fun k st=>match k with
 | 0=>(qvw n).go st
 | _=>.fail
theorem qLX(n:Nat):qc (qka n).c (qa Tryz.f12) 0=[(0,.loop (subC [true,true,false,true,false,false] (qa Tryz.f12)))]:=by kernel_rfl
theorem qLY:Tryz.f12.body=some (qa Tryz.f12):=by kernel_rfl
abbrev qw9:List Ar:=[.d T32]
abbrev qxa:List Ty:=[T4]
noncomputable def qDk(n:Nat)(x:qC qw9):Option (qk qxa):=(qh tab (qka n) (qBQ n) (qa Tryz.f12) 0 (qJ qw9 53 x)).run (qbM tab [.tmp 2] qxa)
noncomputable def qLZ(n:Nat):Ct Tryz.prog:=⟨12,qw9,.ts qxa,qDk n,fun _ _ h=>qbO (B:=tab) (cs:=qka n) (lo:=qBQ n) (rs:=[.tmp 2]) Tryz.func12 (by kernel_rfl) qLY (by kernel_rfl) (by decide) (qf (qLX n) (all_cons (fun st r h=>qHM n st r h) all_nil)) h⟩
noncomputable def qq0(n:Nat):CL Tryz.prog:=⟨[qHz n],[],0,fun _=>false⟩
noncomputable def qxQ(n:Nat):Nat→St→PT (DEx×St):=fun _ _=>.fail
theorem qHN(n:Nat):qc (qq0 n).c (qa Tryz.f13) 0=[]:=by kernel_rfl
theorem qHO:Tryz.f13.body=some (qa Tryz.f13):=by kernel_rfl
abbrev qsl:List Ar:=[]
abbrev qsm:List Ty:=[T32]
noncomputable def qyS(n:Nat)(x:qC qsl):Option (qk qsm):=(qh tab (qq0 n) (qxQ n) (qa Tryz.f13) 0 (qJ qsl 21 x)).run (qbM tab [.cell 0 32] qsm)
noncomputable def qHP(n:Nat):Ct Tryz.prog:=⟨13,qsl,.ts qsm,qyS n,fun _ _ h=>qbO (B:=tab) (cs:=qq0 n) (lo:=qxQ n) (rs:=[.cell 0 32]) Tryz.func13 (by kernel_rfl) qHO (by kernel_rfl) (by decide) (qf (qHN n) all_nil) h⟩
noncomputable def qxb(n:Nat):CL Tryz.prog:=⟨[qKx n,qHP n,qG7 n],[],0,fun _=>false⟩
noncomputable def qDl(n:Nat):Nat→St→PT (DEx×St):=fun _ _=>.fail
theorem qMP(n:Nat):qc (qxb n).c (qa Tryz.f5) 0=[]:=by kernel_rfl
theorem qMQ:Tryz.f5.body=some (qa Tryz.f5):=by kernel_rfl
abbrev qyr:List Ar:=[]
abbrev qys:List Ty:=[T4]
noncomputable def qEo(n:Nat)(x:qC qyr):Option (qk qys):=(qh tab (qxb n) (qDl n) (qa Tryz.f5) 0 (qJ qyr 41 x)).run (qbM tab [.tmp 0] qys)
noncomputable def qMR(n:Nat):Ct Tryz.prog:=⟨5,qyr,.ts qys,qEo n,fun _ _ h=>qbO (B:=tab) (cs:=qxb n) (lo:=qDl n) (rs:=[.tmp 0]) Tryz.func5 (by kernel_rfl) qMQ (by kernel_rfl) (by decide) (qf (qMP n) all_nil) h⟩
noncomputable def quQ(n:Nat):CL Tryz.prog:=⟨[qBk n,qLZ n],[],0,fun _=>false⟩
noncomputable def qBo(n:Nat):Nat→St→PT (DEx×St):=fun _ _=>.fail
theorem qKR(n:Nat):qc (quQ n).c (qa Tryz.f4) 0=[]:=by kernel_rfl
theorem qKS:Tryz.f4.body=some (qa Tryz.f4):=by kernel_rfl
abbrev qvx:List Ar:=[.d T32]
abbrev qvy:List Ty:=[T4]
noncomputable def qBR(n:Nat)(x:qC qvx):Option (qk qvy):=(qh tab (quQ n) (qBo n) (qa Tryz.f4) 0 (qJ qvx 11 x)).run (qbM tab [.tmp 2] qvy)
noncomputable def qKT(n:Nat):Ct Tryz.prog:=⟨4,qvx,.ts qvy,qBR n,fun _ _ h=>qbO (B:=tab) (cs:=quQ n) (lo:=qBo n) (rs:=[.tmp 2]) Tryz.func4 (by kernel_rfl) qKS (by kernel_rfl) (by decide) (qf (qKR n) all_nil) h⟩
noncomputable def qcB(n:Nat):CL Tryz.prog:=⟨[qKT n,qMR n,qKP n,qHv n,qBk n,qKx n,qJI n,qNU n],[],0,fun _=>false⟩
noncomputable def qu5(n:Nat):Nat→St→PT (DEx×St):=fun _ _=>.fail
abbrev qiA:List It:=[.v (.t 1) T3,.v (.t 9) T25,.v (.t 10) T3,.obj (.t 2) false 32 13,.v (.c 0 0) T32,.obj (.t 5) false 32 13,.v (.c 1 0) T32]
abbrev qln:List (DEx×List It):=[(.exit 0,[.obj (.t 5) false 32 13,.v (.c 0 0) T32]),(.ret,[.v (.t 4) T4])]
noncomputable def qv6(n:Nat)(rec:qb qiA→Option (qg qln))(s:qb qiA):Option (qg qln):=(qh tab (qcB n) (qu5 n) (subC [true,true,true,true,true,true,true,false,true,false,false] (qa Tryz.f3)) 1 (mkS qiA 155 s)).run (Lp.leaf 155 qiA qln rec)
noncomputable def qpo(n:Nat):Lp:=⟨155,qiA,qln,qe n (qv6 n)⟩
theorem qEM(n:Nat):qc (qcB n).c (subC [true,true,true,true,true,true,true,false,true,false,false] (qa Tryz.f3)) 1=[]:=by kernel_rfl
theorem qCI(n:Nat)(st:St)(r:DEx×St)(h:((qpo n).go st).Is r):DA Tryz.prog false (.loop (subC [true,true,true,true,true,true,true,false,true,false,false] (qa Tryz.f3))) st r:=Lp.ok (L:=qpo n) (B:=tab) (cs:=qcB n) (lo:=qu5 n) (id:=0) rfl (qf (qEM n) all_nil) (fun _ _=>rfl) h
noncomputable def qu6(n:Nat):Nat→St→PT (DEx×St):=fun _ _=>.fail
abbrev qiB:List It:=[.v (.t 17) T26,.v (.t 18) T37,.v (.t 19) T3,.v (.t 20) T3,.obj (.t 5) false 32 13,.v (.c 0 0) T32]
abbrev qlp:List (DEx×List It):=[(.exit 2,[.v (.t 17) T26,.v (.t 18) T37,.v (.t 19) T3,.obj (.t 5) false 32 13,.v (.c 0 0) T32])]
noncomputable def qv7(n:Nat)(rec:qb qiB→Option (qg qlp))(s:qb qiB):Option (qg qlp):=(qh tab (qcB n) (qu6 n) (subC [true,true,true,true,true,true,true,true,true,true,false,true,false,false] (qa Tryz.f3)) 2 (mkS qiB 155 s)).run (Lp.leaf 155 qiB qlp rec)
noncomputable def qpp(n:Nat):Lp:=⟨155,qiB,qlp,qe n (qv7 n)⟩
theorem qEN(n:Nat):qc (qcB n).c (subC [true,true,true,true,true,true,true,true,true,true,false,true,false,false] (qa Tryz.f3)) 2=[]:=by kernel_rfl
theorem qCJ(n:Nat)(st:St)(r:DEx×St)(h:((qpp n).go st).Is r):DA Tryz.prog false (.loop (subC [true,true,true,true,true,true,true,true,true,true,false,true,false,false] (qa Tryz.f3))) st r:=Lp.ok (L:=qpp n) (B:=tab) (cs:=qcB n) (lo:=qu6 n) (id:=1) rfl (qf (qEN n) all_nil) (fun _ _=>rfl) h
noncomputable def qv8(n:Nat):Nat→St→PT (DEx×St):=fun k st=>match k with
 | 0=>(qpo n).go st
 | 1=>(qpp n).go st
 | _=>.fail
theorem qGi(n:Nat):qc (qcB n).c (qa Tryz.f3) 0=[(0,.loop (subC [true,true,true,true,true,true,true,false,true,false,false] (qa Tryz.f3))),(1,.loop (subC [true,true,true,true,true,true,true,true,true,true,false,true,false,false] (qa Tryz.f3)))]:=by kernel_rfl
theorem qGj:Tryz.f3.body=some (qa Tryz.f3):=by kernel_rfl
abbrev qjh:List Ar:=[.d T32,.d T3]
abbrev qqp:List Ty:=[T4]
noncomputable def qxc(n:Nat)(x:qC qjh):Option (qk qqp):=(qh tab (qcB n) (qv8 n) (qa Tryz.f3) 0 (qJ qjh 155 x)).run (qbM tab [.tmp 4] qqp)
noncomputable def qxd(n:Nat):Ct Tryz.prog:=⟨3,qjh,.ts qqp,qxc n,fun _ _ h=>qbO (B:=tab) (cs:=qcB n) (lo:=qv8 n) (rs:=[.tmp 4]) Tryz.func3 (by kernel_rfl) qGj (by kernel_rfl) (by decide) (qf (qGi n) (all_cons (fun st r h=>qCI n st r h) (all_cons (fun st r h=>qCJ n st r h) all_nil))) h⟩
end Go.Proofs.YtklkodbibffohaaGreat
