/- Printed: what functions of the program compute. -/
import Derived.Test.YtcjgodgpaokbnaaDnB
set_option linter.constructorNameAsVariable false
set_option linter.unusedSimpArgs false
set_option linter.unusedVariables false
set_option linter.unusedSectionVars false
namespace Go.Proofs.Ytcjgodgpaokbnaa
open Go Go.Proofs Go.RowKit
set_option maxRecDepth 20000
noncomputable def quD(n:Nat):CL Try.prog:=⟨[qyd n,qsS n],[],0,fun _=>false⟩
noncomputable def qzq(n:Nat):Nat→St→PT (DEx×St):=fun _ _=>.fail
theorem qFW(n:Nat):qe (quD n).c (qa Try.f75) 0=[]:=by kernel_rfl
theorem qFX:Try.f75.body=some (qa Try.f75):=by kernel_rfl
abbrev qvC:List Ar:=[.d T30,.d T30]
abbrev qvD:List Ty:=[T3]
noncomputable def qAi(n:Nat)(x:qR qvC):Option (qu qvD):=(qq tab (quD n) (qzq n) (qa Try.f75) 0 (qbc qvC 17 x)).run (qcR tab [.tmp 4] qvD)
noncomputable def qvE(n:Nat):Ct Try.prog:=⟨75,qvC,.ts qvD,qAi n,fun _ _ h=>qcV (B:=tab) (cs:=quD n) (lo:=qzq n) (rs:=[.tmp 4]) Try.func75 (by kernel_rfl) qFX (by kernel_rfl) (by decide) (ql (qFW n) qf) h⟩
noncomputable def qsa(n:Nat):CL Try.prog:=⟨[],[],0,fun _=>false⟩
noncomputable def qwo(n:Nat):Nat→St→PT (DEx×St):=fun _ _=>.fail
theorem qDH(n:Nat):qe (qsa n).c (qa Try.f74) 0=[]:=by kernel_rfl
theorem qDI:Try.f74.body=some (qa Try.f74):=by kernel_rfl
abbrev qsb:List It:=[.v (.t 0) T30,.obj (.t 1) true 30 5,.v (.c 0 0) T30]
abbrev qrk:List (List It):=[[.v (.t 0) T4,.obj (.t 1) true 30 5,.v (.c 0 0) T30]]
noncomputable def qxf(n:Nat)(x:qc qsb):Option (qI qrk):=runW tab (qsa n) (qwo n) (qa Try.f74) qsb 2 14 [.tmp 3] qrk x
noncomputable def qxg(n:Nat):Cw Try.prog:=⟨74,2,qsb,1,qrk,qxf n,fun _ _ h=>qb2 (B:=tab) (cs:=qsa n) (lo:=qwo n) (rs:=[.tmp 3]) Try.func74 (by kernel_rfl) qDI (by kernel_rfl) (by decide) (ql (qDH n) qf) h⟩
noncomputable def qbs(n:Nat):CL Try.prog:=⟨[],[qxg n],0,fun _=>false⟩
noncomputable def qit(n:Nat):Nat→St→PT (DEx×St):=fun _ _=>.fail
abbrev qb3:List It:=[.v (.t 0) T25,.v (.t 7) T3,.v (.t 8) T3,.fnc (.t 1) 74 [.box true 30 5],.v (.c 0 0) T30]
abbrev qcW:List (DEx×List It):=[(.exit 0,[.fnc (.t 1) 74 [.box true 30 5],.v (.c 0 0) T30]),(.ret,[.v (.t 4) T3,.fnc (.t 1) 74 [.box true 30 5],.v (.c 0 0) T30])]
noncomputable def qiL(n:Nat)(rec:qc qb3→Option (qk qcW))(s:qc qb3):Option (qk qcW):=(qq tab (qbs n) (qit n) (subC [true,false,true,false,false] (qa Try.f64)) 1 (mkS qb3 19 s)).run (Lp.leaf 19 qb3 qcW rec)
noncomputable def qfg(n:Nat):Lp:=⟨19,qb3,qcW,qj n (qiL n)⟩
theorem qou(n:Nat):qe (qbs n).c (subC [true,false,true,false,false] (qa Try.f64)) 1=[]:=by kernel_rfl
theorem qns(n:Nat)(st:St)(r:DEx×St)(h:((qfg n).go st).Is r):DA Try.prog false (.loop (subC [true,false,true,false,false] (qa Try.f64))) st r:=Lp.ok (L:=qfg n) (B:=tab) (cs:=qbs n) (lo:=qit n) (id:=0) rfl (ql (qou n) qf) (fun _ _=>rfl) h
noncomputable def qiM(n:Nat):Nat→St→PT (DEx×St):=fun k st=>match k with
 | 0=>(qfg n).go st
 | _=>.fail
theorem qoN(n:Nat):qe (qbs n).c (qa Try.f64) 0=[(0,.loop (subC [true,false,true,false,false] (qa Try.f64)))]:=by kernel_rfl
theorem qoO:Try.f64.body=some (qa Try.f64):=by kernel_rfl
abbrev qfh:List It:=[.v (.t 0) T25,.fnc (.t 1) 74 [.box true 30 5],.v (.c 0 0) T30]
abbrev qe8:List (List It):=[[.v (.t 0) T3,.obj (.t 1) true 30 5,.v (.c 0 0) T30]]
noncomputable def qiU(n:Nat)(x:qc qfh):Option (qI qe8):=runW tab (qbs n) (qiM n) (qa Try.f64) qfh 2 19 [.tmp 4] qe8 x
noncomputable def qfo(n:Nat):Cw Try.prog:=⟨64,2,qfh,1,qe8,qiU n,fun _ _ h=>qb2 (B:=tab) (cs:=qbs n) (lo:=qiM n) (rs:=[.tmp 4]) Try.func64 (by kernel_rfl) qoO (by kernel_rfl) (by decide) (ql (qoN n) (all_cons (fun st r h=>qns n st r h) qf)) h⟩
noncomputable def qeC(n:Nat):CL Try.prog:=⟨[],[qfo n,qxg n],0,fun _=>false⟩
noncomputable def qhR(n:Nat):Nat→St→PT (DEx×St):=fun _ _=>.fail
theorem qnK(n:Nat):qe (qeC n).c (qa Try.f73) 0=[]:=by kernel_rfl
theorem qnL:Try.f73.body=some (qa Try.f73):=by kernel_rfl
abbrev qeD:List It:=[.v (.t 0) T25,.fnc (.t 1) 74 [.box true 30 5],.v (.c 0 0) T30]
abbrev qeq:List (List It):=[[.v (.t 0) T4,.obj (.t 1) true 30 5,.v (.c 0 0) T30]]
noncomputable def qie(n:Nat)(x:qc qeD):Option (qI qeq):=runW tab (qeC n) (qhR n) (qa Try.f73) qeD 2 9 [.tmp 4] qeq x
noncomputable def qif(n:Nat):Cw Try.prog:=⟨73,2,qeD,1,qeq,qie n,fun _ _ h=>qb2 (B:=tab) (cs:=qeC n) (lo:=qhR n) (rs:=[.tmp 4]) Try.func73 (by kernel_rfl) qnL (by kernel_rfl) (by decide) (ql (qnK n) qf) h⟩
noncomputable def qtB(n:Nat):CL Try.prog:=⟨[],[qif n],0,fun _=>false⟩
noncomputable def qyj(n:Nat):Nat→St→PT (DEx×St):=fun _ _=>.fail
theorem qFi(n:Nat):qe (qtB n).c (qa Try.f72) 0=[]:=by kernel_rfl
theorem qFj:Try.f72.body=some (qa Try.f72):=by kernel_rfl
abbrev qtC:List It:=[.v (.t 0) T30,.obj (.t 1) true 25 1,.v (.c 0 0) T25]
abbrev qsZ:List (List It):=[[.v (.t 0) T4,.obj (.t 1) true 25 1,.v (.c 0 0) T25]]
noncomputable def qzr(n:Nat)(x:qc qtC):Option (qI qsZ):=runW tab (qtB n) (qyj n) (qa Try.f72) qtC 2 12 [.tmp 3] qsZ x
noncomputable def qzs(n:Nat):Cw Try.prog:=⟨72,2,qtC,1,qsZ,qzr n,fun _ _ h=>qb2 (B:=tab) (cs:=qtB n) (lo:=qyj n) (rs:=[.tmp 3]) Try.func72 (by kernel_rfl) qFj (by kernel_rfl) (by decide) (ql (qFi n) qf) h⟩
noncomputable def qv(n:Nat):CL Try.prog:=⟨[qvE n],[],0,fun _=>false⟩
noncomputable def qf7(n:Nat):Nat→St→PT (DEx×St):=fun _ _=>.fail
abbrev qbk:List It:=[.v (.t 1) T3,.v (.t 2) T3,.fn (.t 3) 75 [] [],.v (.t 8) T3,.v (.t 9) T3,.row (.t 0) true T30 30]
abbrev qb4:List (DEx×List It):=[(.exit 2,[.v (.t 1) T3,.v (.t 2) T3,.fn (.t 3) 75 [] [],.v (.t 8) T3,.row (.t 0) true T30 30])]
noncomputable def qgu(n:Nat)(rec:qc qbk→Option (qk qb4))(s:qc qbk):Option (qk qb4):=(qq tab (qv n) (qf7 n) (subC [true,false,false,true,false,false,true,false,false] (qa Try.f106)) 2 (mkS qbk 53 s)).run (Lp.leaf 53 qbk qb4 rec)
noncomputable def qdh(n:Nat):Lp:=⟨53,qbk,qb4,qj n (qgu n)⟩
theorem qlf(n:Nat):qe (qv n).c (subC [true,false,false,true,false,false,true,false,false] (qa Try.f106)) 2=[]:=by kernel_rfl
theorem qkn(n:Nat)(st:St)(r:DEx×St)(h:((qdh n).go st).Is r):DA Try.prog false (.loop (subC [true,false,false,true,false,false,true,false,false] (qa Try.f106))) st r:=Lp.ok (L:=qdh n) (B:=tab) (cs:=qv n) (lo:=qf7 n) (id:=1) rfl (ql (qlf n) qf) (fun _ _=>rfl) h
noncomputable def qf8(n:Nat):Nat→St→PT (DEx×St):=fun k st=>match k with
 | 1=>(qdh n).go st
 | _=>.fail
abbrev qbl:List It:=[.v (.t 1) T3,.v (.t 2) T3,.fn (.t 3) 75 [] [],.v (.t 8) T3,.row (.t 0) true T30 30]
abbrev qb5:List (DEx×List It):=[(.exit 0,[.row (.t 0) true T30 30])]
noncomputable def qgv(n:Nat)(rec:qc qbl→Option (qk qb5))(s:qc qbl):Option (qk qb5):=(qq tab (qv n) (qf8 n) (subC [true,false,false] (qa Try.f106)) 1 (mkS qbl 53 s)).run (Lp.leaf 53 qbl qb5 rec)
noncomputable def qdi(n:Nat):Lp:=⟨53,qbl,qb5,qj n (qgv n)⟩
theorem qlg(n:Nat):qe (qv n).c (subC [true,false,false] (qa Try.f106)) 1=[(1,.loop (subC [true,false,false,true,false,false,true,false,false] (qa Try.f106)))]:=by kernel_rfl
theorem qko(n:Nat)(st:St)(r:DEx×St)(h:((qdi n).go st).Is r):DA Try.prog false (.loop (subC [true,false,false] (qa Try.f106))) st r:=Lp.ok (L:=qdi n) (B:=tab) (cs:=qv n) (lo:=qf8 n) (id:=0) rfl (ql (qlg n) (all_cons (fun st r h=>qkn n st r h) qf)) (fun _ _=>rfl) h
noncomputable def qgw(n:Nat):Nat→St→PT (DEx×St):=fun k st=>match k with
 | 0=>(qdi n).go st
 | _=>.fail
theorem qlT(n:Nat):qe (qv n).c (qa Try.f106) 0=[(0,.loop (subC [true,false,false] (qa Try.f106)))]:=by kernel_rfl
theorem qlU:Try.f106.body=some (qa Try.f106):=by kernel_rfl
abbrev qdj:List It:=[.v (.t 1) T3,.v (.t 2) T3,.fn (.t 3) 75 [] [],.row (.t 0) true T30 30]
abbrev qc3:List (List It):=[[.row (.t 0) true T30 30]]
noncomputable def qgM(n:Nat)(x:qc qdj):Option (qI qc3):=runW tab (qv n) (qgw n) (qa Try.f106) qdj 4 53 [] qc3 x
noncomputable def qgN(n:Nat):Cw Try.prog:=⟨106,4,qdj,0,qc3,qgM n,fun _ _ h=>qb2 (B:=tab) (cs:=qv n) (lo:=qgw n) (rs:=[]) Try.func106 (by kernel_rfl) qlU (by kernel_rfl) (by decide) (ql (qlT n) (all_cons (fun st r h=>qko n st r h) qf)) h⟩
noncomputable def qs0(n:Nat):CL Try.prog:=⟨[qyd n,qsS n],[],0,fun _=>false⟩
noncomputable def qxh(n:Nat):Nat→St→PT (DEx×St):=fun _ _=>.fail
theorem qEx(n:Nat):qe (qs0 n).c (qa Try.f96) 0=[]:=by kernel_rfl
theorem qEy:Try.f96.body=some (qa Try.f96):=by kernel_rfl
abbrev qtD:List Ar:=[.d T77,.d T77]
abbrev qtE:List Ty:=[T3]
noncomputable def qyk(n:Nat)(x:qR qtD):Option (qu qtE):=(qq tab (qs0 n) (qxh n) (qa Try.f96) 0 (qbc qtD 26 x)).run (qcR tab [.tmp 4] qtE)
noncomputable def qEz(n:Nat):Ct Try.prog:=⟨96,qtD,.ts qtE,qyk n,fun _ _ h=>qcV (B:=tab) (cs:=qs0 n) (lo:=qxh n) (rs:=[.tmp 4]) Try.func96 (by kernel_rfl) qEy (by kernel_rfl) (by decide) (ql (qEx n) qf) h⟩
noncomputable def qbC(n:Nat):CL Try.prog:=⟨[qEz n],[],0,fun _=>false⟩
noncomputable def qiV(n:Nat):Nat→St→PT (DEx×St):=fun _ _=>.fail
abbrev qcf:List It:=[.v (.t 0) T28,.v (.t 1) T28,.fn (.t 2) 96 [] [],.v (.t 11) T28,.v (.t 12) T3,.v (.t 13) T3]
abbrev qdk:List (DEx×List It):=[(.exit 0,[.v (.t 0) T28,.v (.t 1) T28]),(.ret,[.v (.t 6) T3])]
noncomputable def qi9(n:Nat)(rec:qc qcf→Option (qk qdk))(s:qc qcf):Option (qk qdk):=(qq tab (qbC n) (qiV n) (subC [true,false,true,false,false] (qa Try.f95)) 1 (mkS qcf 39 s)).run (Lp.leaf 39 qcf qdk rec)
noncomputable def qfx(n:Nat):Lp:=⟨39,qcf,qdk,qj n (qi9 n)⟩
theorem qo7(n:Nat):qe (qbC n).c (subC [true,false,true,false,false] (qa Try.f95)) 1=[]:=by kernel_rfl
theorem qoc(n:Nat)(st:St)(r:DEx×St)(h:((qfx n).go st).Is r):DA Try.prog false (.loop (subC [true,false,true,false,false] (qa Try.f95))) st r:=Lp.ok (L:=qfx n) (B:=tab) (cs:=qbC n) (lo:=qiV n) (id:=0) rfl (ql (qo7 n) qf) (fun _ _=>rfl) h
noncomputable def qja(n:Nat):Nat→St→PT (DEx×St):=fun k st=>match k with
 | 0=>(qfx n).go st
 | _=>.fail
theorem qpw(n:Nat):qe (qbC n).c (qa Try.f95) 0=[(0,.loop (subC [true,false,true,false,false] (qa Try.f95)))]:=by kernel_rfl
theorem qpx:Try.f95.body=some (qa Try.f95):=by kernel_rfl
abbrev qfM:List Ar:=[.d T28,.d T28,.fn 96 [] []]
abbrev qfN:List Ty:=[T3]
noncomputable def qjq(n:Nat)(x:qR qfM):Option (qu qfN):=(qq tab (qbC n) (qja n) (qa Try.f95) 0 (qbc qfM 39 x)).run (qcR tab [.tmp 6] qfN)
noncomputable def qpy(n:Nat):Ct Try.prog:=⟨95,qfM,.ts qfN,qjq n,fun _ _ h=>qcV (B:=tab) (cs:=qbC n) (lo:=qja n) (rs:=[.tmp 6]) Try.func95 (by kernel_rfl) qpx (by kernel_rfl) (by decide) (ql (qpw n) (all_cons (fun st r h=>qoc n st r h) qf)) h⟩
noncomputable def quE(n:Nat):CL Try.prog:=⟨[qyd n,qsS n,qpy n],[],0,fun _=>false⟩
noncomputable def qzt(n:Nat):Nat→St→PT (DEx×St):=fun _ _=>.fail
theorem qFY(n:Nat):qe (quE n).c (qa Try.f60) 0=[]:=by kernel_rfl
theorem qFZ:Try.f60.body=some (qa Try.f60):=by kernel_rfl
abbrev qvF:List Ar:=[.d T30,.d T30]
abbrev qvG:List Ty:=[T3]
noncomputable def qAj(n:Nat)(x:qR qvF):Option (qu qvG):=(qq tab (quE n) (qzt n) (qa Try.f60) 0 (qbc qvF 32 x)).run (qcR tab [.tmp 4] qvG)
noncomputable def qc4(n:Nat):Ct Try.prog:=⟨60,qvF,.ts qvG,qAj n,fun _ _ h=>qcV (B:=tab) (cs:=quE n) (lo:=qzt n) (rs:=[.tmp 4]) Try.func60 (by kernel_rfl) qFZ (by kernel_rfl) (by decide) (ql (qFY n) qf) h⟩
noncomputable def qw(n:Nat):CL Try.prog:=⟨[qc4 n],[],0,fun _=>false⟩
noncomputable def qf9(n:Nat):Nat→St→PT (DEx×St):=fun _ _=>.fail
abbrev qbm:List It:=[.v (.t 1) T3,.v (.t 2) T3,.fn (.t 3) 60 [] [],.v (.t 8) T3,.v (.t 9) T3,.row (.t 0) true T30 30]
abbrev qb6:List (DEx×List It):=[(.exit 2,[.v (.t 1) T3,.v (.t 2) T3,.fn (.t 3) 60 [] [],.v (.t 8) T3,.row (.t 0) true T30 30])]
noncomputable def qgx(n:Nat)(rec:qc qbm→Option (qk qb6))(s:qc qbm):Option (qk qb6):=(qq tab (qw n) (qf9 n) (subC [true,false,false,true,false,false,true,false,false] (qa Try.f106)) 2 (mkS qbm 53 s)).run (Lp.leaf 53 qbm qb6 rec)
noncomputable def qdl(n:Nat):Lp:=⟨53,qbm,qb6,qj n (qgx n)⟩
theorem qlh(n:Nat):qe (qw n).c (subC [true,false,false,true,false,false,true,false,false] (qa Try.f106)) 2=[]:=by kernel_rfl
theorem qkp(n:Nat)(st:St)(r:DEx×St)(h:((qdl n).go st).Is r):DA Try.prog false (.loop (subC [true,false,false,true,false,false,true,false,false] (qa Try.f106))) st r:=Lp.ok (L:=qdl n) (B:=tab) (cs:=qw n) (lo:=qf9 n) (id:=1) rfl (ql (qlh n) qf) (fun _ _=>rfl) h
noncomputable def qga(n:Nat):Nat→St→PT (DEx×St):=fun k st=>match k with
 | 1=>(qdl n).go st
 | _=>.fail
abbrev qbn:List It:=[.v (.t 1) T3,.v (.t 2) T3,.fn (.t 3) 60 [] [],.v (.t 8) T3,.row (.t 0) true T30 30]
abbrev qb7:List (DEx×List It):=[(.exit 0,[.row (.t 0) true T30 30])]
noncomputable def qgy(n:Nat)(rec:qc qbn→Option (qk qb7))(s:qc qbn):Option (qk qb7):=(qq tab (qw n) (qga n) (subC [true,false,false] (qa Try.f106)) 1 (mkS qbn 53 s)).run (Lp.leaf 53 qbn qb7 rec)
noncomputable def qdm(n:Nat):Lp:=⟨53,qbn,qb7,qj n (qgy n)⟩
theorem qli(n:Nat):qe (qw n).c (subC [true,false,false] (qa Try.f106)) 1=[(1,.loop (subC [true,false,false,true,false,false,true,false,false] (qa Try.f106)))]:=by kernel_rfl
theorem qkq(n:Nat)(st:St)(r:DEx×St)(h:((qdm n).go st).Is r):DA Try.prog false (.loop (subC [true,false,false] (qa Try.f106))) st r:=Lp.ok (L:=qdm n) (B:=tab) (cs:=qw n) (lo:=qga n) (id:=0) rfl (ql (qli n) (all_cons (fun st r h=>qkp n st r h) qf)) (fun _ _=>rfl) h
noncomputable def qgz(n:Nat):Nat→St→PT (DEx×St):=fun k st=>match k with
 | 0=>(qdm n).go st
 | _=>.fail
theorem qlV(n:Nat):qe (qw n).c (qa Try.f106) 0=[(0,.loop (subC [true,false,false] (qa Try.f106)))]:=by kernel_rfl
theorem qlW:Try.f106.body=some (qa Try.f106):=by kernel_rfl
abbrev qdn:List It:=[.v (.t 1) T3,.v (.t 2) T3,.fn (.t 3) 60 [] [],.row (.t 0) true T30 30]
abbrev qc5:List (List It):=[[.row (.t 0) true T30 30]]
noncomputable def qgO(n:Nat)(x:qc qdn):Option (qI qc5):=runW tab (qw n) (qgz n) (qa Try.f106) qdn 4 53 [] qc5 x
noncomputable def qgP(n:Nat):Cw Try.prog:=⟨106,4,qdn,0,qc5,qgO n,fun _ _ h=>qb2 (B:=tab) (cs:=qw n) (lo:=qgz n) (rs:=[]) Try.func106 (by kernel_rfl) qlW (by kernel_rfl) (by decide) (ql (qlV n) (all_cons (fun st r h=>qkq n st r h) qf)) h⟩
noncomputable def qsc(n:Nat):CL Try.prog:=⟨[qnr n],[],0,fun _=>false⟩
noncomputable def qwp(n:Nat):Nat→St→PT (DEx×St):=fun _ _=>.fail
theorem qDJ(n:Nat):qe (qsc n).c (qa Try.f90) 0=[]:=by kernel_rfl
theorem qDK:Try.f90.body=some (qa Try.f90):=by kernel_rfl
abbrev qs1:List Ar:=[.d T49]
abbrev qs2:List Ty:=[T4]
noncomputable def qxi(n:Nat)(x:qR qs1):Option (qu qs2):=(qq tab (qsc n) (qwp n) (qa Try.f90) 0 (qbc qs1 13 x)).run (qcR tab [.tmp 2] qs2)
noncomputable def qxj(n:Nat):Ct Try.prog:=⟨90,qs1,.ts qs2,qxi n,fun _ _ h=>qcV (B:=tab) (cs:=qsc n) (lo:=qwp n) (rs:=[.tmp 2]) Try.func90 (by kernel_rfl) qDK (by kernel_rfl) (by decide) (ql (qDJ n) qf) h⟩
noncomputable def qbM(n:Nat):CL Try.prog:=⟨[qxj n],[],0,fun _=>false⟩
noncomputable def qjr(n:Nat):Nat→St→PT (DEx×St):=fun _ _=>.fail
abbrev qct:List It:=[.v (.t 0) T22,.fn (.t 1) 90 [] [],.v (.t 7) T3,.v (.t 8) T3]
abbrev qdX:List (DEx×List It):=[(.exit 0,[]),(.ret,[.v (.t 4) T3])]
noncomputable def qjC(n:Nat)(rec:qc qct→Option (qk qdX))(s:qc qct):Option (qk qdX):=(qq tab (qbM n) (qjr n) (subC [true,false,true,false,false] (qa Try.f104)) 1 (mkS qct 19 s)).run (Lp.leaf 19 qct qdX rec)
noncomputable def qgb(n:Nat):Lp:=⟨19,qct,qdX,qj n (qjC n)⟩
theorem qpV(n:Nat):qe (qbM n).c (subC [true,false,true,false,false] (qa Try.f104)) 1=[]:=by kernel_rfl
theorem qoP(n:Nat)(st:St)(r:DEx×St)(h:((qgb n).go st).Is r):DA Try.prog false (.loop (subC [true,false,true,false,false] (qa Try.f104))) st r:=Lp.ok (L:=qgb n) (B:=tab) (cs:=qbM n) (lo:=qjr n) (id:=0) rfl (ql (qpV n) qf) (fun _ _=>rfl) h
noncomputable def qjD(n:Nat):Nat→St→PT (DEx×St):=fun k st=>match k with
 | 0=>(qgb n).go st
 | _=>.fail
theorem qqf(n:Nat):qe (qbM n).c (qa Try.f104) 0=[(0,.loop (subC [true,false,true,false,false] (qa Try.f104)))]:=by kernel_rfl
theorem qqg:Try.f104.body=some (qa Try.f104):=by kernel_rfl
abbrev qgH:List Ar:=[.d T22,.fn 90 [] []]
abbrev qgI:List Ty:=[T3]
noncomputable def qjX(n:Nat)(x:qR qgH):Option (qu qgI):=(qq tab (qbM n) (qjD n) (qa Try.f104) 0 (qbc qgH 19 x)).run (qcR tab [.tmp 4] qgI)
noncomputable def qqh(n:Nat):Ct Try.prog:=⟨104,qgH,.ts qgI,qjX n,fun _ _ h=>qcV (B:=tab) (cs:=qbM n) (lo:=qjD n) (rs:=[.tmp 4]) Try.func104 (by kernel_rfl) qqg (by kernel_rfl) (by decide) (ql (qqf n) (all_cons (fun st r h=>qoP n st r h) qf)) h⟩
noncomputable def qfp(n:Nat):CL Try.prog:=⟨[qxj n,qqh n],[],0,fun _=>false⟩
noncomputable def qiW(n:Nat):Nat→St→PT (DEx×St):=fun _ _=>.fail
theorem qo8(n:Nat):qe (qfp n).c (qa Try.f89) 0=[]:=by kernel_rfl
theorem qo9:Try.f89.body=some (qa Try.f89):=by kernel_rfl
abbrev qfy:List Ar:=[.d T22,.fn 90 [] []]
abbrev qfz:List Ty:=[T4]
noncomputable def qjb(n:Nat)(x:qR qfy):Option (qu qfz):=(qq tab (qfp n) (qiW n) (qa Try.f89) 0 (qbc qfy 9 x)).run (qcR tab [.tmp 4] qfz)
noncomputable def qpa(n:Nat):Ct Try.prog:=⟨89,qfy,.ts qfz,qjb n,fun _ _ h=>qcV (B:=tab) (cs:=qfp n) (lo:=qiW n) (rs:=[.tmp 4]) Try.func89 (by kernel_rfl) qo9 (by kernel_rfl) (by decide) (ql (qo8 n) qf) h⟩
noncomputable def qtF(n:Nat):CL Try.prog:=⟨[qnr n,qpa n],[],0,fun _=>false⟩
noncomputable def qyl(n:Nat):Nat→St→PT (DEx×St):=fun _ _=>.fail
theorem qFk(n:Nat):qe (qtF n).c (qa Try.f56) 0=[]:=by kernel_rfl
theorem qFl:Try.f56.body=some (qa Try.f56):=by kernel_rfl
abbrev quF:List Ar:=[.d T69]
abbrev quG:List Ty:=[T4]
noncomputable def qzu(n:Nat)(x:qR quF):Option (qu quG):=(qq tab (qtF n) (qyl n) (qa Try.f56) 0 (qbc quF 21 x)).run (qcR tab [.tmp 2] quG)
noncomputable def qFm(n:Nat):Ct Try.prog:=⟨56,quF,.ts quG,qzu n,fun _ _ h=>qcV (B:=tab) (cs:=qtF n) (lo:=qyl n) (rs:=[.tmp 2]) Try.func56 (by kernel_rfl) qFl (by kernel_rfl) (by decide) (ql (qFk n) qf) h⟩
noncomputable def qsd(n:Nat):CL Try.prog:=⟨[qc4 n],[],0,fun _=>false⟩
noncomputable def qwq(n:Nat):Nat→St→PT (DEx×St):=fun _ _=>.fail
theorem qDL(n:Nat):qe (qsd n).c (qa Try.f62) 0=[]:=by kernel_rfl
theorem qDM:Try.f62.body=some (qa Try.f62):=by kernel_rfl
abbrev qs3:List Ar:=[.d T30,.d T30]
abbrev qs4:List Ty:=[T4]
noncomputable def qxk(n:Nat)(x:qR qs3):Option (qu qs4):=(qq tab (qsd n) (qwq n) (qa Try.f62) 0 (qbc qs3 9 x)).run (qcR tab [.tmp 4] qs4)
noncomputable def qDN(n:Nat):Ct Try.prog:=⟨62,qs3,.ts qs4,qxk n,fun _ _ h=>qcV (B:=tab) (cs:=qsd n) (lo:=qwq n) (rs:=[.tmp 4]) Try.func62 (by kernel_rfl) qDM (by kernel_rfl) (by decide) (ql (qDL n) qf) h⟩
end Go.Proofs.Ytcjgodgpaokbnaa
