/- Printed: what functions of the program compute. -/
import Derived.Test.YtklkodbibffohaaGreatDnA
set_option linter.constructorNameAsVariable false
set_option linter.unusedSimpArgs false
set_option linter.unusedVariables false
set_option linter.unusedSectionVars false
namespace Go.Proofs.YtklkodbibffohaaGreat
open Go Go.Proofs Go.RowKit
set_option maxRecDepth 20000
noncomputable def qy5(n:Nat):CL Tryz.prog:=⟨[],[],0,fun _=>false⟩
noncomputable def qFj(n:Nat):Nat→St→PT (DEx×St):=fun _ _=>.fail
theorem qOx(n:Nat):qc (qy5 n).c (qa Tryz.f75) 0=[]:=by kernel_rfl
theorem qOy:Tryz.f75.body=some (qa Tryz.f75):=by kernel_rfl
abbrev qAv:List Ar:=[.d T3]
abbrev qAw:List Ty:=[T4]
noncomputable def qGV(n:Nat)(x:qC qAv):Option (qk qAw):=(qh tab (qy5 n) (qFj n) (qa Tryz.f75) 0 (qJ qAv 6 x)).run (qbM tab [.tmp 2] qAw)
noncomputable def qGW(n:Nat):Ct Tryz.prog:=⟨75,qAv,.ts qAw,qGV n,fun _ _ h=>qbO (B:=tab) (cs:=qy5 n) (lo:=qFj n) (rs:=[.tmp 2]) Tryz.func75 (by kernel_rfl) qOy (by kernel_rfl) (by decide) (qf (qOx n) all_nil) h⟩
noncomputable def qAx(n:Nat):CL Tryz.prog:=⟨[qGW n],[],0,fun _=>false⟩
noncomputable def qGX(n:Nat):Nat→St→PT (DEx×St):=fun _ _=>.fail
theorem qPh(n:Nat):qc (qAx n).c (qa Tryz.f97) 0=[]:=by kernel_rfl
theorem qPi:Tryz.f97.body=some (qa Tryz.f97):=by kernel_rfl
abbrev qB8:List Ar:=[.d T3,.d T3]
abbrev qB9:List Ty:=[T4]
noncomputable def qIg(n:Nat)(x:qC qB8):Option (qk qB9):=(qh tab (qAx n) (qGX n) (qa Tryz.f97) 0 (qJ qB8 17 x)).run (qbM tab [.tmp 4] qB9)
noncomputable def qIh(n:Nat):Ct Tryz.prog:=⟨97,qB8,.ts qB9,qIg n,fun _ _ h=>qbO (B:=tab) (cs:=qAx n) (lo:=qGX n) (rs:=[.tmp 4]) Tryz.func97 (by kernel_rfl) qPi (by kernel_rfl) (by decide) (qf (qPh n) all_nil) h⟩
noncomputable def qwx(n:Nat):CL Tryz.prog:=⟨[qGW n],[],0,fun _=>false⟩
noncomputable def qC0(n:Nat):Nat→St→PT (DEx×St):=fun _ _=>.fail
theorem qMr(n:Nat):qc (qwx n).c (qa Tryz.f44) 0=[]:=by kernel_rfl
theorem qMs:Tryz.f44.body=some (qa Tryz.f44):=by kernel_rfl
abbrev qxS:List Ar:=[.d T3,.d T3]
abbrev qxT:List Ty:=[T3]
noncomputable def qD3(n:Nat)(x:qC qxS):Option (qk qxT):=(qh tab (qwx n) (qC0 n) (qa Tryz.f44) 0 (qJ qxS 20 x)).run (qbM tab [.tmp 4] qxT)
noncomputable def qsN(n:Nat):Ct Tryz.prog:=⟨44,qxS,.ts qxT,qD3 n,fun _ _ h=>qbO (B:=tab) (cs:=qwx n) (lo:=qC0 n) (rs:=[.tmp 4]) Tryz.func44 (by kernel_rfl) qMs (by kernel_rfl) (by decide) (qf (qMr n) all_nil) h⟩
noncomputable def qs7(n:Nat):CL Tryz.prog:=⟨[],[],0,fun _=>false⟩
noncomputable def qKi(n:Nat):Nat→St→PT (DEx×St):=fun _ _=>.fail
abbrev qwy:List It:=[.v (.t 6) T25,.v (.t 7) T3,.v (.t 8) T3,.row (.t 3) false T3 3]
abbrev qAy:List (DEx×List It):=[(.exit 0,[.row (.t 3) false T3 3])]
noncomputable def qLo(n:Nat)(rec:qb qwy→Option (qg qAy))(s:qb qwy):Option (qg qAy):=(qh tab (qs7 n) (qKi n) (subC [true,true,false,true,false,false] (qa Tryz.f32)) 1 (mkS qwy 19 s)).run (Lp.leaf 19 qwy qAy rec)
noncomputable def qFk(n:Nat):Lp:=⟨19,qwy,qAy,qe n (qLo n)⟩
theorem qRR(n:Nat):qc (qs7 n).c (subC [true,true,false,true,false,false] (qa Tryz.f32)) 1=[]:=by kernel_rfl
theorem qOz(n:Nat)(st:St)(r:DEx×St)(h:((qFk n).go st).Is r):DA Tryz.prog false (.loop (subC [true,true,false,true,false,false] (qa Tryz.f32))) st r:=Lp.ok (L:=qFk n) (B:=tab) (cs:=qs7 n) (lo:=qKi n) (id:=0) rfl (qf (qRR n) all_nil) (fun _ _=>rfl) h
noncomputable def qLp(n:Nat):Nat→St→PT (DEx×St):=fun k st=>match k with
 | 0=>(qFk n).go st
 | _=>.fail
theorem qSF(n:Nat):qc (qs7 n).c (qa Tryz.f32) 0=[(0,.loop (subC [true,true,false,true,false,false] (qa Tryz.f32)))]:=by kernel_rfl
theorem qSG:Tryz.f32.body=some (qa Tryz.f32):=by kernel_rfl
abbrev qFl:List It:=[.v (.t 0) T25]
abbrev qDB:List (List It):=[[.row (.t 0) false T3 3]]
noncomputable def qM6(n:Nat)(x:qb qFl):Option (qm qDB):=runW tab (qs7 n) (qLp n) (qa Tryz.f32) qFl 1 19 [.tmp 2] qDB x
noncomputable def qSH(n:Nat):Cw Tryz.prog:=⟨32,1,qFl,1,qDB,qM6 n,fun _ _ h=>qz (B:=tab) (cs:=qs7 n) (lo:=qLp n) (rs:=[.tmp 2]) Tryz.func32 (by kernel_rfl) qSG (by kernel_rfl) (by decide) (qf (qSF n) (all_cons (fun st r h=>qOz n st r h) all_nil)) h⟩
noncomputable def qbb(n:Nat):CL Tryz.prog:=⟨[qIh n],[],0,fun _=>false⟩
noncomputable def qnt(n:Nat):Nat→St→PT (DEx×St):=fun _ _=>.fail
abbrev qef:List It:=[.v (.t 1) T3,.v (.t 2) T3,.v (.t 6) T3,.v (.t 7) T3,.row (.t 0) true T3 3]
abbrev qf3:List (DEx×List It):=[(.exit 2,[.v (.t 1) T3,.v (.t 2) T3,.v (.t 6) T3,.row (.t 0) true T3 3])]
noncomputable def qnZ(n:Nat)(rec:qb qef→Option (qg qf3))(s:qb qef):Option (qg qf3):=(qh tab (qbb n) (qnt n) (subC [true,false,false,true,false,false,true,false,false] (qa Tryz.f91)) 2 (mkS qef 49 s)).run (Lp.leaf 49 qef qf3 rec)
noncomputable def qjn(n:Nat):Lp:=⟨49,qef,qf3,qe n (qnZ n)⟩
theorem qxq(n:Nat):qc (qbb n).c (subC [true,false,false,true,false,false,true,false,false] (qa Tryz.f91)) 2=[]:=by kernel_rfl
theorem qvg(n:Nat)(st:St)(r:DEx×St)(h:((qjn n).go st).Is r):DA Tryz.prog false (.loop (subC [true,false,false,true,false,false,true,false,false] (qa Tryz.f91))) st r:=Lp.ok (L:=qjn n) (B:=tab) (cs:=qbb n) (lo:=qnt n) (id:=1) rfl (qf (qxq n) all_nil) (fun _ _=>rfl) h
noncomputable def qnu(n:Nat):Nat→St→PT (DEx×St):=fun k st=>match k with
 | 1=>(qjn n).go st
 | _=>.fail
abbrev qeg:List It:=[.v (.t 1) T3,.v (.t 2) T3,.v (.t 6) T3,.row (.t 0) true T3 3]
abbrev qf4:List (DEx×List It):=[(.exit 0,[.row (.t 0) true T3 3])]
noncomputable def qn0(n:Nat)(rec:qb qeg→Option (qg qf4))(s:qb qeg):Option (qg qf4):=(qh tab (qbb n) (qnu n) (subC [true,false,false] (qa Tryz.f91)) 1 (mkS qeg 49 s)).run (Lp.leaf 49 qeg qf4 rec)
noncomputable def qjo(n:Nat):Lp:=⟨49,qeg,qf4,qe n (qn0 n)⟩
theorem qxr(n:Nat):qc (qbb n).c (subC [true,false,false] (qa Tryz.f91)) 1=[(1,.loop (subC [true,false,false,true,false,false,true,false,false] (qa Tryz.f91)))]:=by kernel_rfl
theorem qvh(n:Nat)(st:St)(r:DEx×St)(h:((qjo n).go st).Is r):DA Tryz.prog false (.loop (subC [true,false,false] (qa Tryz.f91))) st r:=Lp.ok (L:=qjo n) (B:=tab) (cs:=qbb n) (lo:=qnu n) (id:=0) rfl (qf (qxr n) (all_cons (fun st r h=>qvg n st r h) all_nil)) (fun _ _=>rfl) h
noncomputable def qn1(n:Nat):Nat→St→PT (DEx×St):=fun k st=>match k with
 | 0=>(qjo n).go st
 | _=>.fail
theorem qxU(n:Nat):qc (qbb n).c (qa Tryz.f91) 0=[(0,.loop (subC [true,false,false] (qa Tryz.f91)))]:=by kernel_rfl
theorem qxV:Tryz.f91.body=some (qa Tryz.f91):=by kernel_rfl
abbrev qjp:List It:=[.v (.t 1) T3,.v (.t 2) T3,.row (.t 0) true T3 3]
abbrev qi2:List (List It):=[[.row (.t 0) true T3 3]]
noncomputable def qoG(n:Nat)(x:qb qjp):Option (qm qi2):=runW tab (qbb n) (qn1 n) (qa Tryz.f91) qjp 3 49 [] qi2 x
noncomputable def qxW(n:Nat):Cw Tryz.prog:=⟨91,3,qjp,0,qi2,qoG n,fun _ _ h=>qz (B:=tab) (cs:=qbb n) (lo:=qn1 n) (rs:=[]) Tryz.func91 (by kernel_rfl) qxV (by kernel_rfl) (by decide) (qf (qxU n) (all_cons (fun st r h=>qvh n st r h) all_nil)) h⟩
noncomputable def qwz(n:Nat):CL Tryz.prog:=⟨[],[],0,fun _=>false⟩
noncomputable def qC1(n:Nat):Nat→St→PT (DEx×St):=fun _ _=>.fail
theorem qMt(n:Nat):qc (qwz n).c (qa Tryz.f101) 0=[]:=by kernel_rfl
theorem qMu:Tryz.f101.body=some (qa Tryz.f101):=by kernel_rfl
abbrev qxX:List Ar:=[.d T142]
abbrev qxY:List Ty:=[T3]
noncomputable def qD4(n:Nat)(x:qC qxX):Option (qk qxY):=(qh tab (qwz n) (qC1 n) (qa Tryz.f101) 0 (qJ qxX 25 x)).run (qbM tab [.tmp 2] qxY)
noncomputable def qMv(n:Nat):Ct Tryz.prog:=⟨101,qxX,.ts qxY,qD4 n,fun _ _ h=>qbO (B:=tab) (cs:=qwz n) (lo:=qC1 n) (rs:=[.tmp 2]) Tryz.func101 (by kernel_rfl) qMu (by kernel_rfl) (by decide) (qf (qMt n) all_nil) h⟩
noncomputable def qy6(n:Nat):CL Tryz.prog:=⟨[qMv n],[],0,fun _=>false⟩
noncomputable def qFm(n:Nat):Nat→St→PT (DEx×St):=fun _ _=>.fail
theorem qOA(n:Nat):qc (qy6 n).c (qa Tryz.f53) 0=[]:=by kernel_rfl
theorem qOB:Tryz.f53.body=some (qa Tryz.f53):=by kernel_rfl
abbrev qAz:List Ar:=[.d T105]
abbrev qAA:List Ty:=[T3]
noncomputable def qGY(n:Nat)(x:qC qAz):Option (qk qAA):=(qh tab (qy6 n) (qFm n) (qa Tryz.f53) 0 (qJ qAz 8 x)).run (qbM tab [.tmp 2] qAA)
noncomputable def qAB(n:Nat):Ct Tryz.prog:=⟨53,qAz,.ts qAA,qGY n,fun _ _ h=>qbO (B:=tab) (cs:=qy6 n) (lo:=qFm n) (rs:=[.tmp 2]) Tryz.func53 (by kernel_rfl) qOB (by kernel_rfl) (by decide) (qf (qOA n) all_nil) h⟩
noncomputable def qAC(n:Nat):CL Tryz.prog:=⟨[],[],0,fun _=>false⟩
noncomputable def qGZ(n:Nat):Nat→St→PT (DEx×St):=fun _ _=>.fail
theorem qPj(n:Nat):qc (qAC n).c (qa Tryz.f79) 0=[]:=by kernel_rfl
theorem qPk:Tryz.f79.body=some (qa Tryz.f79):=by kernel_rfl
abbrev qCa:List Ar:=[.d T3,.d T3,.d T3]
abbrev qCb:List Ty:=[T4]
noncomputable def qIi(n:Nat)(x:qC qCa):Option (qk qCb):=(qh tab (qAC n) (qGZ n) (qa Tryz.f79) 0 (qJ qCa 15 x)).run (qbM tab [.tmp 6] qCb)
noncomputable def qpA(n:Nat):Ct Tryz.prog:=⟨79,qCa,.ts qCb,qIi n,fun _ _ h=>qbO (B:=tab) (cs:=qAC n) (lo:=qGZ n) (rs:=[.tmp 6]) Tryz.func79 (by kernel_rfl) qPk (by kernel_rfl) (by decide) (qf (qPj n) all_nil) h⟩
noncomputable def qxZ(n:Nat):CL Tryz.prog:=⟨[qpA n],[],0,fun _=>false⟩
noncomputable def qD5(n:Nat):Nat→St→PT (DEx×St):=fun _ _=>.fail
theorem qNs(n:Nat):qc (qxZ n).c (qa Tryz.f48) 0=[]:=by kernel_rfl
theorem qNt:Tryz.f48.body=some (qa Tryz.f48):=by kernel_rfl
abbrev qy7:List Ar:=[.d T83,.d T3]
abbrev qy8:List Ty:=[T4]
noncomputable def qFn(n:Nat)(x:qC qy7):Option (qk qy8):=(qh tab (qxZ n) (qD5 n) (qa Tryz.f48) 0 (qJ qy7 12 x)).run (qbM tab [.tmp 4] qy8)
noncomputable def qFo(n:Nat):Ct Tryz.prog:=⟨48,qy7,.ts qy8,qFn n,fun _ _ h=>qbO (B:=tab) (cs:=qxZ n) (lo:=qD5 n) (rs:=[.tmp 4]) Tryz.func48 (by kernel_rfl) qNt (by kernel_rfl) (by decide) (qf (qNs n) all_nil) h⟩
noncomputable def qvi(n:Nat):CL Tryz.prog:=⟨[qpA n],[],0,fun _=>false⟩
noncomputable def qBC(n:Nat):Nat→St→PT (DEx×St):=fun _ _=>.fail
theorem qLq(n:Nat):qc (qvi n).c (qa Tryz.f49) 0=[]:=by kernel_rfl
theorem qLr:Tryz.f49.body=some (qa Tryz.f49):=by kernel_rfl
abbrev qwA:List Ar:=[.d T83,.d T3]
abbrev qwB:List Ty:=[T4]
noncomputable def qC2(n:Nat)(x:qC qwA):Option (qk qwB):=(qh tab (qvi n) (qBC n) (qa Tryz.f49) 0 (qJ qwA 11 x)).run (qbM tab [.tmp 4] qwB)
noncomputable def qC3(n:Nat):Ct Tryz.prog:=⟨49,qwA,.ts qwB,qC2 n,fun _ _ h=>qbO (B:=tab) (cs:=qvi n) (lo:=qBC n) (rs:=[.tmp 4]) Tryz.func49 (by kernel_rfl) qLr (by kernel_rfl) (by decide) (qf (qLq n) all_nil) h⟩
noncomputable def qj8(n:Nat):CL Tryz.prog:=⟨[qFo n,qC3 n,qpA n],[],0,fun _=>false⟩
noncomputable def qAD(n:Nat):Nat→St→PT (DEx×St):=fun _ _=>.fail
abbrev qmz:List It:=[.v (.t 5) T3,.v (.t 8) T42,.v (.t 9) T3,.v (.t 10) T3,.obj (.t 2) false 83 2,.v (.c 0 0) T83]
abbrev qqw:List (DEx×List It):=[(.exit 0,[]),(.ret,[.v (.t 4) T4])]
noncomputable def qBD(n:Nat)(rec:qb qmz→Option (qg qqw))(s:qb qmz):Option (qg qqw):=(qh tab (qj8 n) (qAD n) (subC [true,true,false,true,false,false] (qa Tryz.f137)) 1 (mkS qmz 43 s)).run (Lp.leaf 43 qmz qqw rec)
noncomputable def qvj(n:Nat):Lp:=⟨43,qmz,qqw,qe n (qBD n)⟩
theorem qKA(n:Nat):qc (qj8 n).c (subC [true,true,false,true,false,false] (qa Tryz.f137)) 1=[]:=by kernel_rfl
theorem qHs(n:Nat)(st:St)(r:DEx×St)(h:((qvj n).go st).Is r):DA Tryz.prog false (.loop (subC [true,true,false,true,false,false] (qa Tryz.f137))) st r:=Lp.ok (L:=qvj n) (B:=tab) (cs:=qj8 n) (lo:=qAD n) (id:=0) rfl (qf (qKA n) all_nil) (fun _ _=>rfl) h
noncomputable def qBE(n:Nat):Nat→St→PT (DEx×St):=fun k st=>match k with
 | 0=>(qvj n).go st
 | _=>.fail
theorem qLs(n:Nat):qc (qj8 n).c (qa Tryz.f137) 0=[(0,.loop (subC [true,true,false,true,false,false] (qa Tryz.f137)))]:=by kernel_rfl
theorem qLt:Tryz.f137.body=some (qa Tryz.f137):=by kernel_rfl
abbrev qwC:List Ar:=[.d T83,.d T42]
abbrev qwD:List Ty:=[T4]
noncomputable def qC4(n:Nat)(x:qC qwC):Option (qk qwD):=(qh tab (qj8 n) (qBE n) (qa Tryz.f137) 0 (qJ qwC 43 x)).run (qbM tab [.tmp 4] qwD)
noncomputable def qLu(n:Nat):Ct Tryz.prog:=⟨137,qwC,.ts qwD,qC4 n,fun _ _ h=>qbO (B:=tab) (cs:=qj8 n) (lo:=qBE n) (rs:=[.tmp 4]) Tryz.func137 (by kernel_rfl) qLt (by kernel_rfl) (by decide) (qf (qLs n) (all_cons (fun st r h=>qHs n st r h) all_nil)) h⟩
noncomputable def qs8(n:Nat):CL Tryz.prog:=⟨[qpA n,qLu n],[],0,fun _=>false⟩
noncomputable def qzS(n:Nat):Nat→St→PT (DEx×St):=fun _ _=>.fail
theorem qJJ(n:Nat):qc (qs8 n).c (qa Tryz.f117) 0=[]:=by kernel_rfl
theorem qJK:Tryz.f117.body=some (qa Tryz.f117):=by kernel_rfl
abbrev quq:List Ar:=[.d T83,.d T44]
abbrev qur:List Ty:=[T4]
noncomputable def qAE(n:Nat)(x:qC quq):Option (qk qur):=(qh tab (qs8 n) (qzS n) (qa Tryz.f117) 0 (qJ quq 49 x)).run (qbM tab [.tmp 4] qur)
noncomputable def qJL(n:Nat):Ct Tryz.prog:=⟨117,quq,.ts qur,qAE n,fun _ _ h=>qbO (B:=tab) (cs:=qs8 n) (lo:=qzS n) (rs:=[.tmp 4]) Tryz.func117 (by kernel_rfl) qJK (by kernel_rfl) (by decide) (qf (qJJ n) all_nil) h⟩
noncomputable def qq8(n:Nat):CL Tryz.prog:=⟨[],[],0,fun _=>false⟩
noncomputable def qIj(n:Nat):Nat→St→PT (DEx×St):=fun _ _=>.fail
abbrev quV:List It:=[.v (.t 3) T3,.v (.t 6) T26,.v (.t 7) T3,.v (.t 8) T3]
abbrev qyZ:List (DEx×List It):=[(.exit 0,[.v (.t 3) T3]),(.ret,[.v (.t 2) T3])]
noncomputable def qKj(n:Nat)(rec:qb quV→Option (qg qyZ))(s:qb quV):Option (qg qyZ):=(qh tab (qq8 n) (qIj n) (subC [true,true,false,true,false,false] (qa Tryz.f90)) 1 (mkS quV 18 s)).run (Lp.leaf 18 quV qyZ rec)
noncomputable def qDC(n:Nat):Lp:=⟨18,quV,qyZ,qe n (qKj n)⟩
theorem qQF(n:Nat):qc (qq8 n).c (subC [true,true,false,true,false,false] (qa Tryz.f90)) 1=[]:=by kernel_rfl
theorem qNu(n:Nat)(st:St)(r:DEx×St)(h:((qDC n).go st).Is r):DA Tryz.prog false (.loop (subC [true,true,false,true,false,false] (qa Tryz.f90))) st r:=Lp.ok (L:=qDC n) (B:=tab) (cs:=qq8 n) (lo:=qIj n) (id:=0) rfl (qf (qQF n) all_nil) (fun _ _=>rfl) h
noncomputable def qKk(n:Nat):Nat→St→PT (DEx×St):=fun k st=>match k with
 | 0=>(qDC n).go st
 | _=>.fail
theorem qRS(n:Nat):qc (qq8 n).c (qa Tryz.f90) 0=[(0,.loop (subC [true,true,false,true,false,false] (qa Tryz.f90)))]:=by kernel_rfl
theorem qRT:Tryz.f90.body=some (qa Tryz.f90):=by kernel_rfl
abbrev qFp:List Ar:=[.d T26]
abbrev qFq:List Ty:=[T3]
noncomputable def qLv(n:Nat)(x:qC qFp):Option (qk qFq):=(qh tab (qq8 n) (qKk n) (qa Tryz.f90) 0 (qJ qFp 18 x)).run (qbM tab [.tmp 2] qFq)
noncomputable def qFr(n:Nat):Ct Tryz.prog:=⟨90,qFp,.ts qFq,qLv n,fun _ _ h=>qbO (B:=tab) (cs:=qq8 n) (lo:=qKk n) (rs:=[.tmp 2]) Tryz.func90 (by kernel_rfl) qRT (by kernel_rfl) (by decide) (qf (qRS n) (all_cons (fun st r h=>qNu n st r h) all_nil)) h⟩
noncomputable def qq9(n:Nat):CL Tryz.prog:=⟨[],[],0,fun _=>false⟩
noncomputable def qIk(n:Nat):Nat→St→PT (DEx×St):=fun _ _=>.fail
abbrev quW:List It:=[.v (.t 0) T25,.v (.t 5) T25,.v (.t 6) T3,.v (.t 7) T3]
abbrev qy0:List (DEx×List It):=[(.exit 0,[]),(.ret,[.v (.t 2) T4])]
noncomputable def qKl(n:Nat)(rec:qb quW→Option (qg qy0))(s:qb quW):Option (qg qy0):=(qh tab (qq9 n) (qIk n) (subC [true,false,true,false,false] (qa Tryz.f118)) 1 (mkS quW 37 s)).run (Lp.leaf 37 quW qy0 rec)
noncomputable def qDD(n:Nat):Lp:=⟨37,quW,qy0,qe n (qKl n)⟩
theorem qQG(n:Nat):qc (qq9 n).c (subC [true,false,true,false,false] (qa Tryz.f118)) 1=[]:=by kernel_rfl
theorem qNv(n:Nat)(st:St)(r:DEx×St)(h:((qDD n).go st).Is r):DA Tryz.prog false (.loop (subC [true,false,true,false,false] (qa Tryz.f118))) st r:=Lp.ok (L:=qDD n) (B:=tab) (cs:=qq9 n) (lo:=qIk n) (id:=0) rfl (qf (qQG n) all_nil) (fun _ _=>rfl) h
noncomputable def qKm(n:Nat):Nat→St→PT (DEx×St):=fun k st=>match k with
 | 0=>(qDD n).go st
 | _=>.fail
theorem qRU(n:Nat):qc (qq9 n).c (qa Tryz.f118) 0=[(0,.loop (subC [true,false,true,false,false] (qa Tryz.f118)))]:=by kernel_rfl
theorem qRV:Tryz.f118.body=some (qa Tryz.f118):=by kernel_rfl
abbrev qFs:List Ar:=[.d T25]
abbrev qFt:List Ty:=[T4]
noncomputable def qLw(n:Nat)(x:qC qFs):Option (qk qFt):=(qh tab (qq9 n) (qKm n) (qa Tryz.f118) 0 (qJ qFs 37 x)).run (qbM tab [.tmp 2] qFt)
noncomputable def qRW(n:Nat):Ct Tryz.prog:=⟨118,qFs,.ts qFt,qLw n,fun _ _ h=>qbO (B:=tab) (cs:=qq9 n) (lo:=qKm n) (rs:=[.tmp 2]) Tryz.func118 (by kernel_rfl) qRV (by kernel_rfl) (by decide) (qf (qRU n) (all_cons (fun st r h=>qNv n st r h) all_nil)) h⟩
noncomputable def qhu(n:Nat):CL Tryz.prog:=⟨[],[],0,fun _=>false⟩
noncomputable def qwE(n:Nat):Nat→St→PT (DEx×St):=fun _ _=>.fail
abbrev qjC:List It:=[.v (.t 1) T26,.v (.t 6) T3,.row (.t 5) false T44 44]
abbrev qmx:List (DEx×List It):=[(.exit 0,[.row (.t 5) false T44 44])]
noncomputable def qxH(n:Nat)(rec:qb qjC→Option (qg qmx))(s:qb qjC):Option (qg qmx):=(qh tab (qhu n) (qwE n) (subC [true,true,false,true,false,false] (qa Tryz.f7)) 1 (mkS qjC 25 s)).run (Lp.leaf 25 qjC qmx rec)
noncomputable def qqS(n:Nat):Lp:=⟨25,qjC,qmx,qe n (qxH n)⟩
theorem qGs(n:Nat):qc (qhu n).c (subC [true,true,false,true,false,false] (qa Tryz.f7)) 1=[]:=by kernel_rfl
theorem qDE(n:Nat)(st:St)(r:DEx×St)(h:((qqS n).go st).Is r):DA Tryz.prog false (.loop (subC [true,true,false,true,false,false] (qa Tryz.f7))) st r:=Lp.ok (L:=qqS n) (B:=tab) (cs:=qhu n) (lo:=qwE n) (id:=0) rfl (qf (qGs n) all_nil) (fun _ _=>rfl) h
noncomputable def qxI(n:Nat):Nat→St→PT (DEx×St):=fun k st=>match k with
 | 0=>(qqS n).go st
 | _=>.fail
theorem qHt(n:Nat):qc (qhu n).c (qa Tryz.f7) 0=[(0,.loop (subC [true,true,false,true,false,false] (qa Tryz.f7)))]:=by kernel_rfl
theorem qHu:Tryz.f7.body=some (qa Tryz.f7):=by kernel_rfl
abbrev qrP:List Ar:=[.d T25,.d T26]
abbrev qrQ:List Ty:=[T25]
noncomputable def qyC(n:Nat)(x:qC qrP):Option (qk qrQ):=(qh tab (qhu n) (qxI n) (qa Tryz.f7) 0 (qJ qrP 25 x)).run (qbM tab [.tmp 4] qrQ)
noncomputable def qHv(n:Nat):Ct Tryz.prog:=⟨7,qrP,.ts qrQ,qyC n,fun _ _ h=>qbO (B:=tab) (cs:=qhu n) (lo:=qxI n) (rs:=[.tmp 4]) Tryz.func7 (by kernel_rfl) qHu (by kernel_rfl) (by decide) (qf (qHt n) (all_cons (fun st r h=>qDE n st r h) all_nil)) h⟩
noncomputable def qjq(n:Nat):CL Tryz.prog:=⟨[],[],0,fun _=>false⟩
noncomputable def qzT(n:Nat):Nat→St→PT (DEx×St):=fun _ _=>.fail
abbrev qlN:List It:=[.v (.t 0) T25,.v (.t 4) T3,.row (.t 3) false T44 44]
abbrev qo3:List (DEx×List It):=[(.exit 0,[.row (.t 3) false T44 44])]
noncomputable def qAF(n:Nat)(rec:qb qlN→Option (qg qo3))(s:qb qlN):Option (qg qo3):=(qh tab (qjq n) (qzT n) (subC [true,true,false,true,false,false] (qa Tryz.f16)) 1 (mkS qlN 26 s)).run (Lp.leaf 26 qlN qo3 rec)
noncomputable def qus(n:Nat):Lp:=⟨26,qlN,qo3,qe n (qAF n)⟩
theorem qJM(n:Nat):qc (qjq n).c (subC [true,true,false,true,false,false] (qa Tryz.f16)) 1=[]:=by kernel_rfl
theorem qGt(n:Nat)(st:St)(r:DEx×St)(h:((qus n).go st).Is r):DA Tryz.prog false (.loop (subC [true,true,false,true,false,false] (qa Tryz.f16))) st r:=Lp.ok (L:=qus n) (B:=tab) (cs:=qjq n) (lo:=qzT n) (id:=0) rfl (qf (qJM n) all_nil) (fun _ _=>rfl) h
noncomputable def qAG(n:Nat):Nat→St→PT (DEx×St):=fun k st=>match k with
 | 0=>(qus n).go st
 | _=>.fail
theorem qKB(n:Nat):qc (qjq n).c (qa Tryz.f16) 0=[(0,.loop (subC [true,true,false,true,false,false] (qa Tryz.f16)))]:=by kernel_rfl
theorem qKC:Tryz.f16.body=some (qa Tryz.f16):=by kernel_rfl
abbrev qvk:List Ar:=[.d T25]
abbrev qvl:List Ty:=[T25]
noncomputable def qBF(n:Nat)(x:qC qvk):Option (qk qvl):=(qh tab (qjq n) (qAG n) (qa Tryz.f16) 0 (qJ qvk 26 x)).run (qbM tab [.tmp 2] qvl)
noncomputable def qKD(n:Nat):Ct Tryz.prog:=⟨16,qvk,.ts qvl,qBF n,fun _ _ h=>qbO (B:=tab) (cs:=qjq n) (lo:=qAG n) (rs:=[.tmp 2]) Tryz.func16 (by kernel_rfl) qKC (by kernel_rfl) (by decide) (qf (qKB n) (all_cons (fun st r h=>qGt n st r h) all_nil)) h⟩
noncomputable def qo4(n:Nat):CL Tryz.prog:=⟨[],[],0,fun _=>false⟩
noncomputable def qvO(n:Nat):Nat→St→PT (DEx×St):=fun _ _=>.fail
theorem qFu(n:Nat):qc (qo4 n).c (qa Tryz.f15) 0=[]:=by kernel_rfl
theorem qFv:Tryz.f15.body=some (qa Tryz.f15):=by kernel_rfl
abbrev qpT:List Ar:=[.d T24]
abbrev qpU:List Ty:=[T24]
noncomputable def qwF(n:Nat)(x:qC qpT):Option (qk qpU):=(qh tab (qo4 n) (qvO n) (qa Tryz.f15) 0 (qJ qpT 10 x)).run (qbM tab [.cell 2 24] qpU)
noncomputable def qFw(n:Nat):Ct Tryz.prog:=⟨15,qpT,.ts qpU,qwF n,fun _ _ h=>qbO (B:=tab) (cs:=qo4 n) (lo:=qvO n) (rs:=[.cell 2 24]) Tryz.func15 (by kernel_rfl) qFv (by kernel_rfl) (by decide) (qf (qFu n) all_nil) h⟩
noncomputable def qj9(n:Nat):CL Tryz.prog:=⟨[],[],0,fun _=>false⟩
noncomputable def qAH(n:Nat):Nat→St→PT (DEx×St):=fun _ _=>.fail
abbrev qmA:List It:=[.v (.t 1) T25,.v (.t 5) T3,.obj (.t 2) false 24 2,.v (.c 0 0) T24]
abbrev qqx:List (DEx×List It):=[(.exit 0,[.v (.t 1) T25,.obj (.t 2) false 24 2,.v (.c 0 0) T24]),(.ret,[.v (.t 4) T4])]
noncomputable def qBG(n:Nat)(rec:qb qmA→Option (qg qqx))(s:qb qmA):Option (qg qqx):=(qh tab (qj9 n) (qAH n) (subC [true,false,true,false,false] (qa Tryz.f29)) 1 (mkS qmA 38 s)).run (Lp.leaf 38 qmA qqx rec)
noncomputable def qvm(n:Nat):Lp:=⟨38,qmA,qqx,qe n (qBG n)⟩
theorem qKE(n:Nat):qc (qj9 n).c (subC [true,false,true,false,false] (qa Tryz.f29)) 1=[]:=by kernel_rfl
theorem qHw(n:Nat)(st:St)(r:DEx×St)(h:((qvm n).go st).Is r):DA Tryz.prog false (.loop (subC [true,false,true,false,false] (qa Tryz.f29))) st r:=Lp.ok (L:=qvm n) (B:=tab) (cs:=qj9 n) (lo:=qAH n) (id:=0) rfl (qf (qKE n) all_nil) (fun _ _=>rfl) h
noncomputable def qBH(n:Nat):Nat→St→PT (DEx×St):=fun k st=>match k with
 | 0=>(qvm n).go st
 | _=>.fail
theorem qLx(n:Nat):qc (qj9 n).c (qa Tryz.f29) 0=[(0,.loop (subC [true,false,true,false,false] (qa Tryz.f29)))]:=by kernel_rfl
theorem qLy:Tryz.f29.body=some (qa Tryz.f29):=by kernel_rfl
abbrev qwG:List Ar:=[.d T24,.d T25]
abbrev qwH:List Ty:=[T4]
noncomputable def qC5(n:Nat)(x:qC qwG):Option (qk qwH):=(qh tab (qj9 n) (qBH n) (qa Tryz.f29) 0 (qJ qwG 38 x)).run (qbM tab [.tmp 4] qwH)
noncomputable def qLz(n:Nat):Ct Tryz.prog:=⟨29,qwG,.ts qwH,qC5 n,fun _ _ h=>qbO (B:=tab) (cs:=qj9 n) (lo:=qBH n) (rs:=[.tmp 4]) Tryz.func29 (by kernel_rfl) qLy (by kernel_rfl) (by decide) (qf (qLx n) (all_cons (fun st r h=>qHw n st r h) all_nil)) h⟩
noncomputable def qqT(n:Nat):CL Tryz.prog:=⟨[],[],0,fun _=>false⟩
noncomputable def qxJ(n:Nat):Nat→St→PT (DEx×St):=fun _ _=>.fail
theorem qHx(n:Nat):qc (qqT n).c (qa Tryz.f30) 0=[]:=by kernel_rfl
theorem qHy:Tryz.f30.body=some (qa Tryz.f30):=by kernel_rfl
abbrev qrR:List Ar:=[]
abbrev qrS:List Ty:=[T24,T25]
noncomputable def qyD(n:Nat)(x:qC qrR):Option (qk qrS):=(qh tab (qqT n) (qxJ n) (qa Tryz.f30) 0 (qJ qrR 27 x)).run (qbM tab [.cell 0 24,.tmp 1] qrS)
noncomputable def qHz(n:Nat):Ct Tryz.prog:=⟨30,qrR,.ts qrS,qyD n,fun _ _ h=>qbO (B:=tab) (cs:=qqT n) (lo:=qxJ n) (rs:=[.cell 0 24,.tmp 1]) Tryz.func30 (by kernel_rfl) qHy (by kernel_rfl) (by decide) (qf (qHx n) all_nil) h⟩
end Go.Proofs.YtklkodbibffohaaGreat
