/- Printed: what functions of the program compute. -/
import Derived.Test.YtcjgodgpaokbnaaDnB
set_option linter.constructorNameAsVariable false
set_option linter.unusedSimpArgs false
set_option linter.unusedVariables false
set_option linter.unusedSectionVars false
namespace Go.Proofs.Ytcjgodgpaokbnaa
open Go Go.Proofs Go.RowKit
set_option maxRecDepth 20000
noncomputable def qvB(n:Nat):CL Try.prog:=⟨[qzc n,qtH n],[],0,fun _=>false⟩
noncomputable def qAz(n:Nat):Nat→St→PT (DEx×St):=fun _ _=>.fail
theorem qHn(n:Nat):qe (qvB n).c (qa Try.f75) 0=[]:=by kernel_rfl
theorem qHo:Try.f75.body=some (qa Try.f75):=by kernel_rfl
abbrev qwC:List Ar:=[.d T30,.d T30]
abbrev qwD:List Ty:=[T3]
noncomputable def qBu(n:Nat)(x:qQ qwC):Option (qt qwD):=(qo tab (qvB n) (qAz n) (qa Try.f75) 0 (q8 qwC 17 x)).run (qcK tab [.tmp 4] qwD)
noncomputable def qwE(n:Nat):Ct Try.prog:=⟨75,qwC,.ts qwD,qBu n,fun _ _ h=>qcR (B:=tab) (cs:=qvB n) (lo:=qAz n) (rs:=[.tmp 4]) Try.func75 (by kernel_rfl) qHo (by kernel_rfl) (by decide) (ql (qHn n) qf) h⟩
noncomputable def qsX(n:Nat):CL Try.prog:=⟨[],[],0,fun _=>false⟩
noncomputable def qxn(n:Nat):Nat→St→PT (DEx×St):=fun _ _=>.fail
theorem qEZ(n:Nat):qe (qsX n).c (qa Try.f74) 0=[]:=by kernel_rfl
theorem qE0:Try.f74.body=some (qa Try.f74):=by kernel_rfl
abbrev qsY:List It:=[.v (.t 0) T30,.obj (.t 1) true 30 5,.v (.c 0 0) T30]
abbrev qrY:List (List It):=[[.v (.t 0) T4,.obj (.t 1) true 30 5,.v (.c 0 0) T30]]
noncomputable def qyc(n:Nat)(x:qc qsY):Option (qC qrY):=runW tab (qsX n) (qxn n) (qa Try.f74) qsY 2 14 [.tmp 3] qrY x
noncomputable def qyd(n:Nat):Cw Try.prog:=⟨74,2,qsY,1,qrY,qyc n,fun _ _ h=>qbT (B:=tab) (cs:=qsX n) (lo:=qxn n) (rs:=[.tmp 3]) Try.func74 (by kernel_rfl) qE0 (by kernel_rfl) (by decide) (ql (qEZ n) qf) h⟩
noncomputable def qbs(n:Nat):CL Try.prog:=⟨[],[qyd n],0,fun _=>false⟩
noncomputable def qiD(n:Nat):Nat→St→PT (DEx×St):=fun _ _=>.fail
abbrev qb6:List It:=[.v (.t 0) T25,.v (.t 7) T3,.v (.t 8) T3,.fnc (.t 1) 74 [.box true 30 5],.v (.c 0 0) T30]
abbrev qcZ:List (DEx×List It):=[(.exit 0,[.fnc (.t 1) 74 [.box true 30 5],.v (.c 0 0) T30]),(.ret,[.v (.t 4) T3,.fnc (.t 1) 74 [.box true 30 5],.v (.c 0 0) T30])]
noncomputable def qiV(n:Nat)(rec:qc qb6→Option (qk qcZ))(s:qc qb6):Option (qk qcZ):=(qo tab (qbs n) (qiD n) (subC [true,false,true,false,false] (qa Try.f64)) 1 (mkS qb6 19 s)).run (Lp.leaf 19 qb6 qcZ rec)
noncomputable def qfn(n:Nat):Lp:=⟨19,qb6,qcZ,qh n (qiV n)⟩
theorem qoU(n:Nat):qe (qbs n).c (subC [true,false,true,false,false] (qa Try.f64)) 1=[]:=by kernel_rfl
theorem qnR(n:Nat)(st:St)(r:DEx×St)(h:((qfn n).go st).Is r):DA Try.prog false (.loop (subC [true,false,true,false,false] (qa Try.f64))) st r:=Lp.ok (L:=qfn n) (B:=tab) (cs:=qbs n) (lo:=qiD n) (id:=0) rfl (ql (qoU n) qf) (fun _ _=>rfl) h
noncomputable def qiW(n:Nat):Nat→St→PT (DEx×St):=fun k st=>match k with
 | 0=>(qfn n).go st
 | _=>.fail
theorem qpc(n:Nat):qe (qbs n).c (qa Try.f64) 0=[(0,.loop (subC [true,false,true,false,false] (qa Try.f64)))]:=by kernel_rfl
theorem qpd:Try.f64.body=some (qa Try.f64):=by kernel_rfl
abbrev qfo:List It:=[.v (.t 0) T25,.fnc (.t 1) 74 [.box true 30 5],.v (.c 0 0) T30]
abbrev qfg:List (List It):=[[.v (.t 0) T3,.obj (.t 1) true 30 5,.v (.c 0 0) T30]]
noncomputable def qi4(n:Nat)(x:qc qfo):Option (qC qfg):=runW tab (qbs n) (qiW n) (qa Try.f64) qfo 2 19 [.tmp 4] qfg x
noncomputable def qfu(n:Nat):Cw Try.prog:=⟨64,2,qfo,1,qfg,qi4 n,fun _ _ h=>qbT (B:=tab) (cs:=qbs n) (lo:=qiW n) (rs:=[.tmp 4]) Try.func64 (by kernel_rfl) qpd (by kernel_rfl) (by decide) (ql (qpc n) (all_cons (fun st r h=>qnR n st r h) qf)) h⟩
noncomputable def qeJ(n:Nat):CL Try.prog:=⟨[],[qfu n,qyd n],0,fun _=>false⟩
noncomputable def qhY(n:Nat):Nat→St→PT (DEx×St):=fun _ _=>.fail
theorem qoc(n:Nat):qe (qeJ n).c (qa Try.f73) 0=[]:=by kernel_rfl
theorem qod:Try.f73.body=some (qa Try.f73):=by kernel_rfl
abbrev qeK:List It:=[.v (.t 0) T25,.fnc (.t 1) 74 [.box true 30 5],.v (.c 0 0) T30]
abbrev qew:List (List It):=[[.v (.t 0) T4,.obj (.t 1) true 30 5,.v (.c 0 0) T30]]
noncomputable def qin(n:Nat)(x:qc qeK):Option (qC qew):=runW tab (qeJ n) (qhY n) (qa Try.f73) qeK 2 9 [.tmp 4] qew x
noncomputable def qio(n:Nat):Cw Try.prog:=⟨73,2,qeK,1,qew,qin n,fun _ _ h=>qbT (B:=tab) (cs:=qeJ n) (lo:=qhY n) (rs:=[.tmp 4]) Try.func73 (by kernel_rfl) qod (by kernel_rfl) (by decide) (ql (qoc n) qf) h⟩
noncomputable def qut(n:Nat):CL Try.prog:=⟨[],[qio n],0,fun _=>false⟩
noncomputable def qzl(n:Nat):Nat→St→PT (DEx×St):=fun _ _=>.fail
theorem qGD(n:Nat):qe (qut n).c (qa Try.f72) 0=[]:=by kernel_rfl
theorem qGE:Try.f72.body=some (qa Try.f72):=by kernel_rfl
abbrev quu:List It:=[.v (.t 0) T30,.obj (.t 1) true 25 1,.v (.c 0 0) T25]
abbrev qtO:List (List It):=[[.v (.t 0) T4,.obj (.t 1) true 25 1,.v (.c 0 0) T25]]
noncomputable def qAA(n:Nat)(x:qc quu):Option (qC qtO):=runW tab (qut n) (qzl n) (qa Try.f72) quu 2 12 [.tmp 3] qtO x
noncomputable def qAB(n:Nat):Cw Try.prog:=⟨72,2,quu,1,qtO,qAA n,fun _ _ h=>qbT (B:=tab) (cs:=qut n) (lo:=qzl n) (rs:=[.tmp 3]) Try.func72 (by kernel_rfl) qGE (by kernel_rfl) (by decide) (ql (qGD n) qf) h⟩
noncomputable def qv(n:Nat):CL Try.prog:=⟨[qwE n],[],0,fun _=>false⟩
noncomputable def qgd(n:Nat):Nat→St→PT (DEx×St):=fun _ _=>.fail
abbrev qbk:List It:=[.v (.t 1) T3,.v (.t 2) T3,.fn (.t 3) 75 [] [],.v (.t 8) T3,.v (.t 9) T3,.row (.t 0) true T30 30]
abbrev qb7:List (DEx×List It):=[(.exit 2,[.v (.t 1) T3,.v (.t 2) T3,.fn (.t 3) 75 [] [],.v (.t 8) T3,.row (.t 0) true T30 30])]
noncomputable def qgA(n:Nat)(rec:qc qbk→Option (qk qb7))(s:qc qbk):Option (qk qb7):=(qo tab (qv n) (qgd n) (subC [true,false,false,true,false,false,true,false,false] (qa Try.f106)) 2 (mkS qbk 53 s)).run (Lp.leaf 53 qbk qb7 rec)
noncomputable def qdl(n:Nat):Lp:=⟨53,qbk,qb7,qh n (qgA n)⟩
theorem qlx(n:Nat):qe (qv n).c (subC [true,false,false,true,false,false,true,false,false] (qa Try.f106)) 2=[]:=by kernel_rfl
theorem qkE(n:Nat)(st:St)(r:DEx×St)(h:((qdl n).go st).Is r):DA Try.prog false (.loop (subC [true,false,false,true,false,false,true,false,false] (qa Try.f106))) st r:=Lp.ok (L:=qdl n) (B:=tab) (cs:=qv n) (lo:=qgd n) (id:=1) rfl (ql (qlx n) qf) (fun _ _=>rfl) h
noncomputable def qge(n:Nat):Nat→St→PT (DEx×St):=fun k st=>match k with
 | 1=>(qdl n).go st
 | _=>.fail
abbrev qbl:List It:=[.v (.t 1) T3,.v (.t 2) T3,.fn (.t 3) 75 [] [],.v (.t 8) T3,.row (.t 0) true T30 30]
abbrev qb8:List (DEx×List It):=[(.exit 0,[.row (.t 0) true T30 30])]
noncomputable def qgB(n:Nat)(rec:qc qbl→Option (qk qb8))(s:qc qbl):Option (qk qb8):=(qo tab (qv n) (qge n) (subC [true,false,false] (qa Try.f106)) 1 (mkS qbl 53 s)).run (Lp.leaf 53 qbl qb8 rec)
noncomputable def qdm(n:Nat):Lp:=⟨53,qbl,qb8,qh n (qgB n)⟩
theorem qly(n:Nat):qe (qv n).c (subC [true,false,false] (qa Try.f106)) 1=[(1,.loop (subC [true,false,false,true,false,false,true,false,false] (qa Try.f106)))]:=by kernel_rfl
theorem qkF(n:Nat)(st:St)(r:DEx×St)(h:((qdm n).go st).Is r):DA Try.prog false (.loop (subC [true,false,false] (qa Try.f106))) st r:=Lp.ok (L:=qdm n) (B:=tab) (cs:=qv n) (lo:=qge n) (id:=0) rfl (ql (qly n) (all_cons (fun st r h=>qkE n st r h) qf)) (fun _ _=>rfl) h
noncomputable def qgC(n:Nat):Nat→St→PT (DEx×St):=fun k st=>match k with
 | 0=>(qdm n).go st
 | _=>.fail
theorem qma(n:Nat):qe (qv n).c (qa Try.f106) 0=[(0,.loop (subC [true,false,false] (qa Try.f106)))]:=by kernel_rfl
theorem qmb:Try.f106.body=some (qa Try.f106):=by kernel_rfl
abbrev qdn:List It:=[.v (.t 1) T3,.v (.t 2) T3,.fn (.t 3) 75 [] [],.row (.t 0) true T30 30]
abbrev qc6:List (List It):=[[.row (.t 0) true T30 30]]
noncomputable def qgS(n:Nat)(x:qc qdn):Option (qC qc6):=runW tab (qv n) (qgC n) (qa Try.f106) qdn 4 53 [] qc6 x
noncomputable def qgT(n:Nat):Cw Try.prog:=⟨106,4,qdn,0,qc6,qgS n,fun _ _ h=>qbT (B:=tab) (cs:=qv n) (lo:=qgC n) (rs:=[]) Try.func106 (by kernel_rfl) qmb (by kernel_rfl) (by decide) (ql (qma n) (all_cons (fun st r h=>qkF n st r h) qf)) h⟩
noncomputable def qtP(n:Nat):CL Try.prog:=⟨[qzc n,qtH n],[],0,fun _=>false⟩
noncomputable def qye(n:Nat):Nat→St→PT (DEx×St):=fun _ _=>.fail
theorem qFR(n:Nat):qe (qtP n).c (qa Try.f96) 0=[]:=by kernel_rfl
theorem qFS:Try.f96.body=some (qa Try.f96):=by kernel_rfl
abbrev quv:List Ar:=[.d T77,.d T77]
abbrev quw:List Ty:=[T3]
noncomputable def qzm(n:Nat)(x:qQ quv):Option (qt quw):=(qo tab (qtP n) (qye n) (qa Try.f96) 0 (q8 quv 26 x)).run (qcK tab [.tmp 4] quw)
noncomputable def qFT(n:Nat):Ct Try.prog:=⟨96,quv,.ts quw,qzm n,fun _ _ h=>qcR (B:=tab) (cs:=qtP n) (lo:=qye n) (rs:=[.tmp 4]) Try.func96 (by kernel_rfl) qFS (by kernel_rfl) (by decide) (ql (qFR n) qf) h⟩
noncomputable def qbD(n:Nat):CL Try.prog:=⟨[qFT n],[],0,fun _=>false⟩
noncomputable def qi5(n:Nat):Nat→St→PT (DEx×St):=fun _ _=>.fail
abbrev qci:List It:=[.v (.t 0) T28,.v (.t 1) T28,.fn (.t 2) 96 [] [],.v (.t 11) T28,.v (.t 12) T3,.v (.t 13) T3]
abbrev qdo:List (DEx×List It):=[(.exit 0,[.v (.t 0) T28,.v (.t 1) T28]),(.ret,[.v (.t 6) T3])]
noncomputable def qjh(n:Nat)(rec:qc qci→Option (qk qdo))(s:qc qci):Option (qk qdo):=(qo tab (qbD n) (qi5 n) (subC [true,false,true,false,false] (qa Try.f95)) 1 (mkS qci 39 s)).run (Lp.leaf 39 qci qdo rec)
noncomputable def qfD(n:Nat):Lp:=⟨39,qci,qdo,qh n (qjh n)⟩
theorem qpA(n:Nat):qe (qbD n).c (subC [true,false,true,false,false] (qa Try.f95)) 1=[]:=by kernel_rfl
theorem qoC(n:Nat)(st:St)(r:DEx×St)(h:((qfD n).go st).Is r):DA Try.prog false (.loop (subC [true,false,true,false,false] (qa Try.f95))) st r:=Lp.ok (L:=qfD n) (B:=tab) (cs:=qbD n) (lo:=qi5 n) (id:=0) rfl (ql (qpA n) qf) (fun _ _=>rfl) h
noncomputable def qji(n:Nat):Nat→St→PT (DEx×St):=fun k st=>match k with
 | 0=>(qfD n).go st
 | _=>.fail
theorem qp4(n:Nat):qe (qbD n).c (qa Try.f95) 0=[(0,.loop (subC [true,false,true,false,false] (qa Try.f95)))]:=by kernel_rfl
theorem qp5:Try.f95.body=some (qa Try.f95):=by kernel_rfl
abbrev qfS:List Ar:=[.d T28,.d T28,.fn 96 [] []]
abbrev qfT:List Ty:=[T3]
noncomputable def qjx(n:Nat)(x:qQ qfS):Option (qt qfT):=(qo tab (qbD n) (qji n) (qa Try.f95) 0 (q8 qfS 39 x)).run (qcK tab [.tmp 6] qfT)
noncomputable def qp6(n:Nat):Ct Try.prog:=⟨95,qfS,.ts qfT,qjx n,fun _ _ h=>qcR (B:=tab) (cs:=qbD n) (lo:=qji n) (rs:=[.tmp 6]) Try.func95 (by kernel_rfl) qp5 (by kernel_rfl) (by decide) (ql (qp4 n) (all_cons (fun st r h=>qoC n st r h) qf)) h⟩
noncomputable def qvC(n:Nat):CL Try.prog:=⟨[qzc n,qtH n,qp6 n],[],0,fun _=>false⟩
noncomputable def qAC(n:Nat):Nat→St→PT (DEx×St):=fun _ _=>.fail
theorem qHp(n:Nat):qe (qvC n).c (qa Try.f60) 0=[]:=by kernel_rfl
theorem qHq:Try.f60.body=some (qa Try.f60):=by kernel_rfl
abbrev qwF:List Ar:=[.d T30,.d T30]
abbrev qwG:List Ty:=[T3]
noncomputable def qBv(n:Nat)(x:qQ qwF):Option (qt qwG):=(qo tab (qvC n) (qAC n) (qa Try.f60) 0 (q8 qwF 32 x)).run (qcK tab [.tmp 4] qwG)
noncomputable def qc7(n:Nat):Ct Try.prog:=⟨60,qwF,.ts qwG,qBv n,fun _ _ h=>qcR (B:=tab) (cs:=qvC n) (lo:=qAC n) (rs:=[.tmp 4]) Try.func60 (by kernel_rfl) qHq (by kernel_rfl) (by decide) (ql (qHp n) qf) h⟩
noncomputable def qw(n:Nat):CL Try.prog:=⟨[qc7 n],[],0,fun _=>false⟩
noncomputable def qgf(n:Nat):Nat→St→PT (DEx×St):=fun _ _=>.fail
abbrev qbm:List It:=[.v (.t 1) T3,.v (.t 2) T3,.fn (.t 3) 60 [] [],.v (.t 8) T3,.v (.t 9) T3,.row (.t 0) true T30 30]
abbrev qb9:List (DEx×List It):=[(.exit 2,[.v (.t 1) T3,.v (.t 2) T3,.fn (.t 3) 60 [] [],.v (.t 8) T3,.row (.t 0) true T30 30])]
noncomputable def qgD(n:Nat)(rec:qc qbm→Option (qk qb9))(s:qc qbm):Option (qk qb9):=(qo tab (qw n) (qgf n) (subC [true,false,false,true,false,false,true,false,false] (qa Try.f106)) 2 (mkS qbm 53 s)).run (Lp.leaf 53 qbm qb9 rec)
noncomputable def qdp(n:Nat):Lp:=⟨53,qbm,qb9,qh n (qgD n)⟩
theorem qlz(n:Nat):qe (qw n).c (subC [true,false,false,true,false,false,true,false,false] (qa Try.f106)) 2=[]:=by kernel_rfl
theorem qkG(n:Nat)(st:St)(r:DEx×St)(h:((qdp n).go st).Is r):DA Try.prog false (.loop (subC [true,false,false,true,false,false,true,false,false] (qa Try.f106))) st r:=Lp.ok (L:=qdp n) (B:=tab) (cs:=qw n) (lo:=qgf n) (id:=1) rfl (ql (qlz n) qf) (fun _ _=>rfl) h
noncomputable def qgg(n:Nat):Nat→St→PT (DEx×St):=fun k st=>match k with
 | 1=>(qdp n).go st
 | _=>.fail
abbrev qbn:List It:=[.v (.t 1) T3,.v (.t 2) T3,.fn (.t 3) 60 [] [],.v (.t 8) T3,.row (.t 0) true T30 30]
abbrev qca:List (DEx×List It):=[(.exit 0,[.row (.t 0) true T30 30])]
noncomputable def qgE(n:Nat)(rec:qc qbn→Option (qk qca))(s:qc qbn):Option (qk qca):=(qo tab (qw n) (qgg n) (subC [true,false,false] (qa Try.f106)) 1 (mkS qbn 53 s)).run (Lp.leaf 53 qbn qca rec)
noncomputable def qdq(n:Nat):Lp:=⟨53,qbn,qca,qh n (qgE n)⟩
theorem qlA(n:Nat):qe (qw n).c (subC [true,false,false] (qa Try.f106)) 1=[(1,.loop (subC [true,false,false,true,false,false,true,false,false] (qa Try.f106)))]:=by kernel_rfl
theorem qkH(n:Nat)(st:St)(r:DEx×St)(h:((qdq n).go st).Is r):DA Try.prog false (.loop (subC [true,false,false] (qa Try.f106))) st r:=Lp.ok (L:=qdq n) (B:=tab) (cs:=qw n) (lo:=qgg n) (id:=0) rfl (ql (qlA n) (all_cons (fun st r h=>qkG n st r h) qf)) (fun _ _=>rfl) h
noncomputable def qgF(n:Nat):Nat→St→PT (DEx×St):=fun k st=>match k with
 | 0=>(qdq n).go st
 | _=>.fail
theorem qmc(n:Nat):qe (qw n).c (qa Try.f106) 0=[(0,.loop (subC [true,false,false] (qa Try.f106)))]:=by kernel_rfl
theorem qmd:Try.f106.body=some (qa Try.f106):=by kernel_rfl
abbrev qdr:List It:=[.v (.t 1) T3,.v (.t 2) T3,.fn (.t 3) 60 [] [],.row (.t 0) true T30 30]
abbrev qc8:List (List It):=[[.row (.t 0) true T30 30]]
noncomputable def qgU(n:Nat)(x:qc qdr):Option (qC qc8):=runW tab (qw n) (qgF n) (qa Try.f106) qdr 4 53 [] qc8 x
noncomputable def qgV(n:Nat):Cw Try.prog:=⟨106,4,qdr,0,qc8,qgU n,fun _ _ h=>qbT (B:=tab) (cs:=qw n) (lo:=qgF n) (rs:=[]) Try.func106 (by kernel_rfl) qmd (by kernel_rfl) (by decide) (ql (qmc n) (all_cons (fun st r h=>qkH n st r h) qf)) h⟩
noncomputable def qsZ(n:Nat):CL Try.prog:=⟨[qnQ n],[],0,fun _=>false⟩
noncomputable def qxo(n:Nat):Nat→St→PT (DEx×St):=fun _ _=>.fail
theorem qE1(n:Nat):qe (qsZ n).c (qa Try.f90) 0=[]:=by kernel_rfl
theorem qE2:Try.f90.body=some (qa Try.f90):=by kernel_rfl
abbrev qtQ:List Ar:=[.d T49]
abbrev qtR:List Ty:=[T4]
noncomputable def qyf(n:Nat)(x:qQ qtQ):Option (qt qtR):=(qo tab (qsZ n) (qxo n) (qa Try.f90) 0 (q8 qtQ 13 x)).run (qcK tab [.tmp 2] qtR)
noncomputable def qyg(n:Nat):Ct Try.prog:=⟨90,qtQ,.ts qtR,qyf n,fun _ _ h=>qcR (B:=tab) (cs:=qsZ n) (lo:=qxo n) (rs:=[.tmp 2]) Try.func90 (by kernel_rfl) qE2 (by kernel_rfl) (by decide) (ql (qE1 n) qf) h⟩
noncomputable def qbO(n:Nat):CL Try.prog:=⟨[qyg n],[],0,fun _=>false⟩
noncomputable def qjy(n:Nat):Nat→St→PT (DEx×St):=fun _ _=>.fail
abbrev qcx:List It:=[.v (.t 0) T22,.fn (.t 1) 90 [] [],.v (.t 7) T3,.v (.t 8) T3]
abbrev qd3:List (DEx×List It):=[(.exit 0,[]),(.ret,[.v (.t 4) T3])]
noncomputable def qjL(n:Nat)(rec:qc qcx→Option (qk qd3))(s:qc qcx):Option (qk qd3):=(qo tab (qbO n) (qjy n) (subC [true,false,true,false,false] (qa Try.f104)) 1 (mkS qcx 19 s)).run (Lp.leaf 19 qcx qd3 rec)
noncomputable def qgh(n:Nat):Lp:=⟨19,qcx,qd3,qh n (qjL n)⟩
theorem qqu(n:Nat):qe (qbO n).c (subC [true,false,true,false,false] (qa Try.f104)) 1=[]:=by kernel_rfl
theorem qpe(n:Nat)(st:St)(r:DEx×St)(h:((qgh n).go st).Is r):DA Try.prog false (.loop (subC [true,false,true,false,false] (qa Try.f104))) st r:=Lp.ok (L:=qgh n) (B:=tab) (cs:=qbO n) (lo:=qjy n) (id:=0) rfl (ql (qqu n) qf) (fun _ _=>rfl) h
noncomputable def qjM(n:Nat):Nat→St→PT (DEx×St):=fun k st=>match k with
 | 0=>(qgh n).go st
 | _=>.fail
theorem qqR(n:Nat):qe (qbO n).c (qa Try.f104) 0=[(0,.loop (subC [true,false,true,false,false] (qa Try.f104)))]:=by kernel_rfl
theorem qqS:Try.f104.body=some (qa Try.f104):=by kernel_rfl
abbrev qgN:List Ar:=[.d T22,.fn 90 [] []]
abbrev qgO:List Ty:=[T3]
noncomputable def qj9(n:Nat)(x:qQ qgN):Option (qt qgO):=(qo tab (qbO n) (qjM n) (qa Try.f104) 0 (q8 qgN 19 x)).run (qcK tab [.tmp 4] qgO)
noncomputable def qqT(n:Nat):Ct Try.prog:=⟨104,qgN,.ts qgO,qj9 n,fun _ _ h=>qcR (B:=tab) (cs:=qbO n) (lo:=qjM n) (rs:=[.tmp 4]) Try.func104 (by kernel_rfl) qqS (by kernel_rfl) (by decide) (ql (qqR n) (all_cons (fun st r h=>qpe n st r h) qf)) h⟩
noncomputable def qfv(n:Nat):CL Try.prog:=⟨[qyg n,qqT n],[],0,fun _=>false⟩
noncomputable def qi6(n:Nat):Nat→St→PT (DEx×St):=fun _ _=>.fail
theorem qpB(n:Nat):qe (qfv n).c (qa Try.f89) 0=[]:=by kernel_rfl
theorem qpC:Try.f89.body=some (qa Try.f89):=by kernel_rfl
abbrev qfE:List Ar:=[.d T22,.fn 90 [] []]
abbrev qfF:List Ty:=[T4]
noncomputable def qjj(n:Nat)(x:qQ qfE):Option (qt qfF):=(qo tab (qfv n) (qi6 n) (qa Try.f89) 0 (q8 qfE 9 x)).run (qcK tab [.tmp 4] qfF)
noncomputable def qpD(n:Nat):Ct Try.prog:=⟨89,qfE,.ts qfF,qjj n,fun _ _ h=>qcR (B:=tab) (cs:=qfv n) (lo:=qi6 n) (rs:=[.tmp 4]) Try.func89 (by kernel_rfl) qpC (by kernel_rfl) (by decide) (ql (qpB n) qf) h⟩
noncomputable def qux(n:Nat):CL Try.prog:=⟨[qnQ n,qpD n],[],0,fun _=>false⟩
noncomputable def qzn(n:Nat):Nat→St→PT (DEx×St):=fun _ _=>.fail
theorem qGF(n:Nat):qe (qux n).c (qa Try.f56) 0=[]:=by kernel_rfl
theorem qGG:Try.f56.body=some (qa Try.f56):=by kernel_rfl
abbrev qvD:List Ar:=[.d T69]
abbrev qvE:List Ty:=[T4]
noncomputable def qAD(n:Nat)(x:qQ qvD):Option (qt qvE):=(qo tab (qux n) (qzn n) (qa Try.f56) 0 (q8 qvD 21 x)).run (qcK tab [.tmp 2] qvE)
noncomputable def qGH(n:Nat):Ct Try.prog:=⟨56,qvD,.ts qvE,qAD n,fun _ _ h=>qcR (B:=tab) (cs:=qux n) (lo:=qzn n) (rs:=[.tmp 2]) Try.func56 (by kernel_rfl) qGG (by kernel_rfl) (by decide) (ql (qGF n) qf) h⟩
noncomputable def qs0(n:Nat):CL Try.prog:=⟨[qc7 n],[],0,fun _=>false⟩
noncomputable def qxp(n:Nat):Nat→St→PT (DEx×St):=fun _ _=>.fail
theorem qE3(n:Nat):qe (qs0 n).c (qa Try.f62) 0=[]:=by kernel_rfl
theorem qE4:Try.f62.body=some (qa Try.f62):=by kernel_rfl
abbrev qtS:List Ar:=[.d T30,.d T30]
abbrev qtT:List Ty:=[T4]
noncomputable def qyh(n:Nat)(x:qQ qtS):Option (qt qtT):=(qo tab (qs0 n) (qxp n) (qa Try.f62) 0 (q8 qtS 9 x)).run (qcK tab [.tmp 4] qtT)
noncomputable def qE5(n:Nat):Ct Try.prog:=⟨62,qtS,.ts qtT,qyh n,fun _ _ h=>qcR (B:=tab) (cs:=qs0 n) (lo:=qxp n) (rs:=[.tmp 4]) Try.func62 (by kernel_rfl) qE4 (by kernel_rfl) (by decide) (ql (qE3 n) qf) h⟩
end Go.Proofs.Ytcjgodgpaokbnaa
