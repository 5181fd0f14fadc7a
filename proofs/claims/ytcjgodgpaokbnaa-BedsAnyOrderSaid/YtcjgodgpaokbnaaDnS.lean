/- Printed: what functions of the program compute. -/
import Derived.Test.YtcjgodgpaokbnaaDnC
set_option linter.constructorNameAsVariable false
set_option linter.unusedSimpArgs false
set_option linter.unusedVariables false
set_option linter.unusedSectionVars false
namespace Go.Proofs.Ytcjgodgpaokbnaa
open Go Go.Proofs Go.RowKit
set_option maxRecDepth 20000
noncomputable def qm9(n:Nat):CL Try.prog:=⟨[],[],0,fun _=>false⟩
noncomputable def qrG(n:Nat):Nat→St→PT (DEx×St):=fun _ _=>.fail
theorem qym(n:Nat):qe (qm9 n).c (qa Try.f101) 0=[]:=by kernel_rfl
theorem qyn:Try.f101.body=some (qa Try.f101):=by kernel_rfl
abbrev qna:List It:=[.obj (.t 0) true 136 1,.v (.c 0 0) T136]
abbrev qmC:List (List It):=[[.v (.t 0) T129,.obj (.t 1) true 136 1,.v (.c 0 0) T136]]
noncomputable def qse(n:Nat)(x:qc qna):Option (qI qmC):=runW tab (qm9 n) (qrG n) (qa Try.f101) qna 1 33 [.tmp 2] qmC x
noncomputable def qyo(n:Nat):Cw Try.prog:=⟨101,1,qna,1,qmC,qse n,fun _ _ h=>qb2 (B:=tab) (cs:=qm9 n) (lo:=qrG n) (rs:=[.tmp 2]) Try.func101 (by kernel_rfl) qyn (by kernel_rfl) (by decide) (ql (qym n) qf) h⟩
noncomputable def qnM(n:Nat):CL Try.prog:=⟨[qrC n],[],0,fun _=>false⟩
noncomputable def qsf(n:Nat):Nat→St→PT (DEx×St):=fun _ _=>.fail
theorem qyN(n:Nat):qe (qnM n).c (qa Try.f100) 0=[]:=by kernel_rfl
theorem qyO:Try.f100.body=some (qa Try.f100):=by kernel_rfl
abbrev qov:List Ar:=[.d T3]
abbrev qow:List Ty:=[T100]
noncomputable def qsK(n:Nat)(x:qR qov):Option (qu qow):=(qq tab (qnM n) (qsf n) (qa Try.f100) 0 (qbc qov 7 x)).run (qcR tab [.tmp 2] qow)
noncomputable def qyP(n:Nat):Ct Try.prog:=⟨100,qov,.ts qow,qsK n,fun _ _ h=>qcV (B:=tab) (cs:=qnM n) (lo:=qsf n) (rs:=[.tmp 2]) Try.func100 (by kernel_rfl) qyO (by kernel_rfl) (by decide) (ql (qyN n) qf) h⟩
noncomputable def q9(n:Nat):CL Try.prog:=⟨[qc4 n],[],0,fun _=>false⟩
noncomputable def qho(n:Nat):Nat→St→PT (DEx×St):=fun _ _=>.fail
abbrev qbJ:List It:=[.v (.t 2) T3,.v (.t 3) T3,.fn (.t 4) 60 [] [],.v (.t 10) T3,.row (.t 0) true T30 30]
abbrev qcy:List (DEx×List It):=[(.exit 0,[.row (.t 0) true T30 30]),(.ret,[.row (.t 0) true T30 30])]
noncomputable def qhC(n:Nat)(rec:qc qbJ→Option (qk qcy))(s:qc qbJ):Option (qk qcy):=(qq tab (q9 n) (qho n) (subC [true,false,false] (qa Try.f115)) 1 (mkS qbJ 82 s)).run (Lp.leaf 82 qbJ qcy rec)
noncomputable def qer(n:Nat):Lp:=⟨82,qbJ,qcy,qj n (qhC n)⟩
theorem qnb(n:Nat):qe (q9 n).c (subC [true,false,false] (qa Try.f115)) 1=[]:=by kernel_rfl
theorem qmd(n:Nat)(st:St)(r:DEx×St)(h:((qer n).go st).Is r):DA Try.prog false (.loop (subC [true,false,false] (qa Try.f115))) st r:=Lp.ok (L:=qer n) (B:=tab) (cs:=q9 n) (lo:=qho n) (id:=0) rfl (ql (qnb n) qf) (fun _ _=>rfl) h
noncomputable def qhD(n:Nat):Nat→St→PT (DEx×St):=fun k st=>match k with
 | 0=>(qer n).go st
 | _=>.fail
theorem qnt(n:Nat):qe (q9 n).c (qa Try.f115) 0=[(0,.loop (subC [true,false,false] (qa Try.f115)))]:=by kernel_rfl
theorem qnu:Try.f115.body=some (qa Try.f115):=by kernel_rfl
abbrev qes:List It:=[.v (.t 1) T3,.v (.t 2) T3,.v (.t 3) T3,.fn (.t 4) 60 [] [],.row (.t 0) true T30 30]
abbrev qd8:List (List It):=[[.row (.t 0) true T30 30]]
noncomputable def qhS(n:Nat)(x:qc qes):Option (qI qd8):=runW tab (q9 n) (qhD n) (qa Try.f115) qes 5 82 [] qd8 x
noncomputable def qnv(n:Nat):Cw Try.prog:=⟨115,5,qes,0,qd8,qhS n,fun _ _ h=>qb2 (B:=tab) (cs:=q9 n) (lo:=qhD n) (rs:=[]) Try.func115 (by kernel_rfl) qnu (by kernel_rfl) (by decide) (ql (qnt n) (all_cons (fun st r h=>qmd n st r h) qf)) h⟩
noncomputable def qy(n:Nat):CL Try.prog:=⟨[qc4 n],[qnv n],0,fun _=>false⟩
noncomputable def qhp(n:Nat):Nat→St→PT (DEx×St):=fun _ _=>.fail
abbrev qbK:List It:=[.fn (.t 3) 60 [] [],.v (.t 8) T3,.v (.t 9) T3,.v (.t 10) T3,.v (.t 11) T3,.row (.t 0) true T30 30]
abbrev qcz:List (DEx×List It):=[(.exit 0,[.fn (.t 3) 60 [] [],.v (.t 8) T3,.v (.t 9) T3,.v (.t 10) T3,.row (.t 0) true T30 30])]
noncomputable def qhE(n:Nat)(rec:qc qbK→Option (qk qcz))(s:qc qbK):Option (qk qcz):=(qq tab (qy n) (qhp n) (subC [true,true,true,false,true,false,false] (qa Try.f107)) 1 (mkS qbK 60 s)).run (Lp.leaf 60 qbK qcz rec)
noncomputable def qet(n:Nat):Lp:=⟨60,qbK,qcz,qj n (qhE n)⟩
theorem qnc(n:Nat):qe (qy n).c (subC [true,true,true,false,true,false,false] (qa Try.f107)) 1=[]:=by kernel_rfl
theorem qme(n:Nat)(st:St)(r:DEx×St)(h:((qet n).go st).Is r):DA Try.prog false (.loop (subC [true,true,true,false,true,false,false] (qa Try.f107))) st r:=Lp.ok (L:=qet n) (B:=tab) (cs:=qy n) (lo:=qhp n) (id:=0) rfl (ql (qnc n) qf) (fun _ _=>rfl) h
noncomputable def qhq(n:Nat):Nat→St→PT (DEx×St):=fun _ _=>.fail
abbrev qbL:List It:=[.fn (.t 3) 60 [] [],.v (.t 8) T3,.v (.t 9) T3,.v (.t 12) T3,.row (.t 0) true T30 30]
abbrev qcA:List (DEx×List It):=[(.exit 2,[.row (.t 0) true T30 30])]
noncomputable def qhF(n:Nat)(rec:qc qbL→Option (qk qcA))(s:qc qbL):Option (qk qcA):=(qq tab (qy n) (qhq n) (subC [true,true,true,true,true,false,false] (qa Try.f107)) 2 (mkS qbL 60 s)).run (Lp.leaf 60 qbL qcA rec)
noncomputable def qeu(n:Nat):Lp:=⟨60,qbL,qcA,qj n (qhF n)⟩
theorem qnd(n:Nat):qe (qy n).c (subC [true,true,true,true,true,false,false] (qa Try.f107)) 2=[]:=by kernel_rfl
theorem qmf(n:Nat)(st:St)(r:DEx×St)(h:((qeu n).go st).Is r):DA Try.prog false (.loop (subC [true,true,true,true,true,false,false] (qa Try.f107))) st r:=Lp.ok (L:=qeu n) (B:=tab) (cs:=qy n) (lo:=qhq n) (id:=1) rfl (ql (qnd n) qf) (fun _ _=>rfl) h
noncomputable def qhG(n:Nat):Nat→St→PT (DEx×St):=fun k st=>match k with
 | 0=>(qet n).go st
 | 1=>(qeu n).go st
 | _=>.fail
theorem qnw(n:Nat):qe (qy n).c (qa Try.f107) 0=[(0,.loop (subC [true,true,true,false,true,false,false] (qa Try.f107))),(1,.loop (subC [true,true,true,true,true,false,false] (qa Try.f107)))]:=by kernel_rfl
theorem qnx:Try.f107.body=some (qa Try.f107):=by kernel_rfl
abbrev qev:List It:=[.v (.t 1) T3,.v (.t 2) T3,.fn (.t 3) 60 [] [],.row (.t 0) true T30 30]
abbrev qd9:List (List It):=[[.row (.t 0) true T30 30]]
noncomputable def qhT(n:Nat)(x:qc qev):Option (qI qd9):=runW tab (qy n) (qhG n) (qa Try.f107) qev 4 60 [] qd9 x
noncomputable def qhU(n:Nat):Cw Try.prog:=⟨107,4,qev,0,qd9,qhT n,fun _ _ h=>qb2 (B:=tab) (cs:=qy n) (lo:=qhG n) (rs:=[]) Try.func107 (by kernel_rfl) qnx (by kernel_rfl) (by decide) (ql (qnw n) (all_cons (fun st r h=>qme n st r h) (all_cons (fun st r h=>qmf n st r h) qf))) h⟩
noncomputable def qS(n:Nat):CL Try.prog:=⟨[qc4 n],[],0,fun _=>false⟩
noncomputable def qgA(n:Nat):Nat→St→PT (DEx×St):=fun _ _=>.fail
abbrev qbq:List It:=[.v (.t 8) T3,.v (.t 9) T3,.row (.t 0) true T30 30]
abbrev qca:List (DEx×List It):=[(.exit 0,[.row (.t 0) true T30 30])]
noncomputable def qgQ(n:Nat)(rec:qc qbq→Option (qk qca))(s:qc qbq):Option (qk qca):=(qq tab (qS n) (qgA n) (subC [true,true,false,false] (qa Try.f110)) 1 (mkS qbq 34 s)).run (Lp.leaf 34 qbq qca rec)
noncomputable def qdK(n:Nat):Lp:=⟨34,qbq,qca,qj n (qgQ n)⟩
theorem qlX(n:Nat):qe (qS n).c (subC [true,true,false,false] (qa Try.f110)) 1=[]:=by kernel_rfl
theorem qkQ(n:Nat)(st:St)(r:DEx×St)(h:((qdK n).go st).Is r):DA Try.prog false (.loop (subC [true,true,false,false] (qa Try.f110))) st r:=Lp.ok (L:=qdK n) (B:=tab) (cs:=qS n) (lo:=qgA n) (id:=0) rfl (ql (qlX n) qf) (fun _ _=>rfl) h
noncomputable def qgR(n:Nat):Nat→St→PT (DEx×St):=fun k st=>match k with
 | 0=>(qdK n).go st
 | _=>.fail
theorem qmg(n:Nat):qe (qS n).c (qa Try.f110) 0=[(0,.loop (subC [true,true,false,false] (qa Try.f110)))]:=by kernel_rfl
theorem qmh:Try.f110.body=some (qa Try.f110):=by kernel_rfl
abbrev qdL:List It:=[.v (.t 1) T3,.v (.t 2) T3,.fn (.t 3) 60 [] [],.row (.t 0) true T30 30]
abbrev qdo:List (List It):=[[.row (.t 0) true T30 30]]
noncomputable def qgZ(n:Nat)(x:qc qdL):Option (qI qdo):=runW tab (qS n) (qgR n) (qa Try.f110) qdL 4 34 [] qdo x
noncomputable def qg0(n:Nat):Cw Try.prog:=⟨110,4,qdL,0,qdo,qgZ n,fun _ _ h=>qb2 (B:=tab) (cs:=qS n) (lo:=qgR n) (rs:=[]) Try.func110 (by kernel_rfl) qmh (by kernel_rfl) (by decide) (ql (qmg n) (all_cons (fun st r h=>qkQ n st r h) qf)) h⟩
noncomputable def qeU(n:Nat):CL Try.prog:=⟨[qc4 n],[],0,fun _=>false⟩
noncomputable def qig(n:Nat):Nat→St→PT (DEx×St):=fun _ _=>.fail
theorem qod(n:Nat):qe (qeU n).c (qa Try.f118) 0=[]:=by kernel_rfl
theorem qoe:Try.f118.body=some (qa Try.f118):=by kernel_rfl
abbrev qeV:List It:=[.v (.t 0) T25,.v (.t 1) T3,.v (.t 2) T3,.fn (.t 4) 60 [] [],.obj (.t 3) true 3 1,.v (.c 0 0) T3]
abbrev qeE:List (List It):=[[.v (.t 0) T3,.v (.t 1) T3,.obj (.t 2) true 3 1,.v (.c 0 0) T3]]
noncomputable def qiu(n:Nat)(x:qc qeV):Option (qI qeE):=runW tab (qeU n) (qig n) (qa Try.f118) qeV 5 32 [.tmp 10,.tmp 11] qeE x
noncomputable def qof(n:Nat):Cw Try.prog:=⟨118,5,qeV,2,qeE,qiu n,fun _ _ h=>qb2 (B:=tab) (cs:=qeU n) (lo:=qig n) (rs:=[.tmp 10,.tmp 11]) Try.func118 (by kernel_rfl) qoe (by kernel_rfl) (by decide) (ql (qod n) qf) h⟩
noncomputable def qeW(n:Nat):CL Try.prog:=⟨[qc4 n],[qof n],0,fun _=>false⟩
noncomputable def qih(n:Nat):Nat→St→PT (DEx×St):=fun _ _=>.fail
theorem qog(n:Nat):qe (qeW n).c (qa Try.f117) 0=[]:=by kernel_rfl
theorem qoh:Try.f117.body=some (qa Try.f117):=by kernel_rfl
abbrev qeX:List It:=[.v (.t 0) T25,.v (.t 1) T3,.v (.t 2) T3,.v (.t 3) T3,.fn (.t 5) 60 [] [],.obj (.t 4) true 3 1,.v (.c 0 0) T3]
abbrev qeF:List (List It):=[[.v (.t 0) T3,.obj (.t 1) true 3 1,.v (.c 0 0) T3]]
noncomputable def qiv(n:Nat)(x:qc qeX):Option (qI qeF):=runW tab (qeW n) (qih n) (qa Try.f117) qeX 6 41 [.tmp 12] qeF x
noncomputable def qiw(n:Nat):Cw Try.prog:=⟨117,6,qeX,1,qeF,qiv n,fun _ _ h=>qb2 (B:=tab) (cs:=qeW n) (lo:=qih n) (rs:=[.tmp 12]) Try.func117 (by kernel_rfl) qoh (by kernel_rfl) (by decide) (ql (qog n) qf) h⟩
noncomputable def qc6(n:Nat):CL Try.prog:=⟨[qc4 n],[qiw n],0,fun _=>false⟩
noncomputable def qgc(n:Nat):Nat→St→PT (DEx×St):=fun _ _=>.fail
theorem qlj(n:Nat):qe (qc6 n).c (qa Try.f116) 0=[]:=by kernel_rfl
theorem qlk:Try.f116.body=some (qa Try.f116):=by kernel_rfl
abbrev qc7:List It:=[.v (.t 0) T25,.v (.t 1) T3,.fn (.t 3) 60 [] [],.obj (.t 2) true 3 1,.v (.c 0 0) T3]
abbrev qcY:List (List It):=[[.v (.t 0) T3,.obj (.t 1) true 3 1,.v (.c 0 0) T3]]
noncomputable def qgB(n:Nat)(x:qc qc7):Option (qI qcY):=runW tab (qc6 n) (qgc n) (qa Try.f116) qc7 4 18 [.tmp 8] qcY x
noncomputable def qll(n:Nat):Cw Try.prog:=⟨116,4,qc7,1,qcY,qgB n,fun _ _ h=>qb2 (B:=tab) (cs:=qc6 n) (lo:=qgc n) (rs:=[.tmp 8]) Try.func116 (by kernel_rfl) qlk (by kernel_rfl) (by decide) (ql (qlj n) qf) h⟩
noncomputable def qd2(n:Nat):CL Try.prog:=⟨[qc4 n],[qll n,qiw n],0,fun _=>false⟩
noncomputable def qg8(n:Nat):Nat→St→PT (DEx×St):=fun _ _=>.fail
theorem qmT(n:Nat):qe (qd2 n).c (qa Try.f109) 0=[]:=by kernel_rfl
theorem qmU:Try.f109.body=some (qa Try.f109):=by kernel_rfl
abbrev qea:List Ar:=[.d T25,.d T3,.d T3,.fn 60 [] []]
abbrev qeb:List Ty:=[T3,T118]
noncomputable def qhr(n:Nat)(x:qR qea):Option (qu qeb):=(qq tab (qd2 n) (qg8 n) (qa Try.f109) 0 (qbc qea 63 x)).run (qcR tab [.tmp 8,.tmp 9] qeb)
noncomputable def qhs(n:Nat):Ct Try.prog:=⟨109,qea,.ts qeb,qhr n,fun _ _ h=>qcV (B:=tab) (cs:=qd2 n) (lo:=qg8 n) (rs:=[.tmp 8,.tmp 9]) Try.func109 (by kernel_rfl) qmU (by kernel_rfl) (by decide) (ql (qmT n) qf) h⟩
noncomputable def qh(n:Nat):CL Try.prog:=⟨[qc4 n],[],0,fun _=>false⟩
noncomputable def qe4(n:Nat):Nat→St→PT (DEx×St):=fun _ _=>.fail
abbrev qT:List It:=[.v (.t 1) T3,.v (.t 2) T3,.fn (.t 3) 60 [] [],.v (.t 9) T3,.v (.t 10) T3,.row (.t 0) true T30 30]
abbrev qby:List (DEx×List It):=[(.exit 2,[.v (.t 1) T3,.v (.t 2) T3,.fn (.t 3) 60 [] [],.v (.t 9) T3,.v (.t 10) T3,.row (.t 0) true T30 30])]
noncomputable def qfa(n:Nat)(rec:qc qT→Option (qk qby))(s:qc qT):Option (qk qby):=(qq tab (qh n) (qe4 n) (subC [true,true,false,true,false,false,true,false,false,false,false,false] (qa Try.f111)) 2 (mkS qT 141 s)).run (Lp.leaf 141 qT qby rec)
noncomputable def qcB(n:Nat):Lp:=⟨141,qT,qby,qj n (qfa n)⟩
theorem qjQ(n:Nat):qe (qh n).c (subC [true,true,false,true,false,false,true,false,false,false,false,false] (qa Try.f111)) 2=[]:=by kernel_rfl
theorem qji(n:Nat)(st:St)(r:DEx×St)(h:((qcB n).go st).Is r):DA Try.prog false (.loop (subC [true,true,false,true,false,false,true,false,false,false,false,false] (qa Try.f111))) st r:=Lp.ok (L:=qcB n) (B:=tab) (cs:=qh n) (lo:=qe4 n) (id:=1) rfl (ql (qjQ n) qf) (fun _ _=>rfl) h
noncomputable def qe5(n:Nat):Nat→St→PT (DEx×St):=fun _ _=>.fail
abbrev qU:List It:=[.v (.t 1) T3,.v (.t 2) T3,.fn (.t 3) 60 [] [],.v (.t 9) T3,.v (.t 10) T3,.v (.t 11) T3,.row (.t 0) true T30 30]
abbrev qbz:List (DEx×List It):=[(.exit 4,[.v (.t 1) T3,.v (.t 2) T3,.fn (.t 3) 60 [] [],.v (.t 9) T3,.v (.t 10) T3,.row (.t 0) true T30 30])]
noncomputable def qfb(n:Nat)(rec:qc qU→Option (qk qbz))(s:qc qU):Option (qk qbz):=(qq tab (qh n) (qe5 n) (subC [true,true,false,true,false,false,true,false,false,true,true,true,true,false,true,false,true,false,false] (qa Try.f111)) 3 (mkS qU 141 s)).run (Lp.leaf 141 qU qbz rec)
noncomputable def qcC(n:Nat):Lp:=⟨141,qU,qbz,qj n (qfb n)⟩
theorem qjR(n:Nat):qe (qh n).c (subC [true,true,false,true,false,false,true,false,false,true,true,true,true,false,true,false,true,false,false] (qa Try.f111)) 3=[]:=by kernel_rfl
theorem qjj(n:Nat)(st:St)(r:DEx×St)(h:((qcC n).go st).Is r):DA Try.prog false (.loop (subC [true,true,false,true,false,false,true,false,false,true,true,true,true,false,true,false,true,false,false] (qa Try.f111))) st r:=Lp.ok (L:=qcC n) (B:=tab) (cs:=qh n) (lo:=qe5 n) (id:=2) rfl (ql (qjR n) qf) (fun _ _=>rfl) h
noncomputable def qe6(n:Nat):Nat→St→PT (DEx×St):=fun _ _=>.fail
abbrev qV:List It:=[.v (.t 1) T3,.v (.t 2) T3,.fn (.t 3) 60 [] [],.v (.t 9) T3,.v (.t 10) T3,.v (.t 12) T3,.row (.t 0) true T30 30]
abbrev qbA:List (DEx×List It):=[(.exit 6,[.v (.t 1) T3,.v (.t 2) T3,.fn (.t 3) 60 [] [],.v (.t 9) T3,.v (.t 10) T3,.row (.t 0) true T30 30])]
noncomputable def qfc(n:Nat)(rec:qc qV→Option (qk qbA))(s:qc qV):Option (qk qbA):=(qq tab (qh n) (qe6 n) (subC [true,true,false,true,false,false,true,false,false,true,true,true,true,true,true,false,true,false,false] (qa Try.f111)) 4 (mkS qV 141 s)).run (Lp.leaf 141 qV qbA rec)
noncomputable def qcD(n:Nat):Lp:=⟨141,qV,qbA,qj n (qfc n)⟩
theorem qjS(n:Nat):qe (qh n).c (subC [true,true,false,true,false,false,true,false,false,true,true,true,true,true,true,false,true,false,false] (qa Try.f111)) 4=[]:=by kernel_rfl
theorem qjk(n:Nat)(st:St)(r:DEx×St)(h:((qcD n).go st).Is r):DA Try.prog false (.loop (subC [true,true,false,true,false,false,true,false,false,true,true,true,true,true,true,false,true,false,false] (qa Try.f111))) st r:=Lp.ok (L:=qcD n) (B:=tab) (cs:=qh n) (lo:=qe6 n) (id:=3) rfl (ql (qjS n) qf) (fun _ _=>rfl) h
noncomputable def qe7(n:Nat):Nat→St→PT (DEx×St):=fun k st=>match k with
 | 1=>(qcB n).go st
 | 2=>(qcC n).go st
 | 3=>(qcD n).go st
 | _=>.fail
abbrev qW:List It:=[.v (.t 1) T3,.v (.t 2) T3,.fn (.t 3) 60 [] [],.v (.t 9) T3,.v (.t 10) T3,.row (.t 0) true T30 30]
abbrev qbB:List (DEx×List It):=[(.exit 0,[.row (.t 0) true T30 30]),(.ret,[.v (.t 8) T4,.row (.t 0) true T30 30])]
noncomputable def qfd(n:Nat)(rec:qc qW→Option (qk qbB))(s:qc qW):Option (qk qbB):=(qq tab (qh n) (qe7 n) (subC [true,true,false,true,false,false] (qa Try.f111)) 1 (mkS qW 141 s)).run (Lp.leaf 141 qW qbB rec)
noncomputable def qcE(n:Nat):Lp:=⟨141,qW,qbB,qj n (qfd n)⟩
theorem qjT(n:Nat):qe (qh n).c (subC [true,true,false,true,false,false] (qa Try.f111)) 1=[(1,.loop (subC [true,true,false,true,false,false,true,false,false,false,false,false] (qa Try.f111))),(2,.loop (subC [true,true,false,true,false,false,true,false,false,true,true,true,true,false,true,false,true,false,false] (qa Try.f111))),(3,.loop (subC [true,true,false,true,false,false,true,false,false,true,true,true,true,true,true,false,true,false,false] (qa Try.f111)))]:=by kernel_rfl
theorem qjl(n:Nat)(st:St)(r:DEx×St)(h:((qcE n).go st).Is r):DA Try.prog false (.loop (subC [true,true,false,true,false,false] (qa Try.f111))) st r:=Lp.ok (L:=qcE n) (B:=tab) (cs:=qh n) (lo:=qe7 n) (id:=0) rfl (ql (qjT n) (all_cons (fun st r h=>qji n st r h) (all_cons (fun st r h=>qjj n st r h) (all_cons (fun st r h=>qjk n st r h) qf)))) (fun _ _=>rfl) h
noncomputable def qfe(n:Nat):Nat→St→PT (DEx×St):=fun k st=>match k with
 | 0=>(qcE n).go st
 | _=>.fail
theorem qj1(n:Nat):qe (qh n).c (qa Try.f111) 0=[(0,.loop (subC [true,true,false,true,false,false] (qa Try.f111)))]:=by kernel_rfl
theorem qj2:Try.f111.body=some (qa Try.f111):=by kernel_rfl
abbrev qcF:List It:=[.v (.t 1) T3,.v (.t 2) T3,.fn (.t 3) 60 [] [],.row (.t 0) true T30 30]
abbrev qcu:List (List It):=[[.v (.t 0) T4,.row (.t 1) true T30 30]]
noncomputable def qfl(n:Nat)(x:qc qcF):Option (qI qcu):=runW tab (qh n) (qfe n) (qa Try.f111) qcF 4 141 [.tmp 8] qcu x
noncomputable def qfm(n:Nat):Cw Try.prog:=⟨111,4,qcF,1,qcu,qfl n,fun _ _ h=>qb2 (B:=tab) (cs:=qh n) (lo:=qfe n) (rs:=[.tmp 8]) Try.func111 (by kernel_rfl) qj2 (by kernel_rfl) (by decide) (ql (qj1 n) (all_cons (fun st r h=>qjl n st r h) qf)) h⟩
noncomputable def qm(n:Nat):CL Try.prog:=⟨[qc4 n],[],0,fun _=>false⟩
noncomputable def qfV(n:Nat):Nat→St→PT (DEx×St):=fun _ _=>.fail
abbrev qbf:List It:=[.v (.t 1) T3,.fn (.t 4) 60 [] [],.v (.t 11) T3,.v (.t 12) T3,.row (.t 0) true T30 30]
abbrev qbX:List (DEx×List It):=[(.exit 2,[.v (.t 1) T3,.fn (.t 4) 60 [] [],.v (.t 11) T3,.v (.t 12) T3,.row (.t 0) true T30 30])]
noncomputable def qgd(n:Nat)(rec:qc qbf→Option (qk qbX))(s:qc qbf):Option (qk qbX):=(qq tab (qm n) (qfV n) (subC [true,true,true,false,false,false,false,false,false,false] (qa Try.f112)) 2 (mkS qbf 90 s)).run (Lp.leaf 90 qbf qbX rec)
noncomputable def qc8(n:Nat):Lp:=⟨90,qbf,qbX,qj n (qgd n)⟩
theorem qk1(n:Nat):qe (qm n).c (subC [true,true,true,false,false,false,false,false,false,false] (qa Try.f112)) 2=[]:=by kernel_rfl
theorem qkg(n:Nat)(st:St)(r:DEx×St)(h:((qc8 n).go st).Is r):DA Try.prog false (.loop (subC [true,true,true,false,false,false,false,false,false,false] (qa Try.f112))) st r:=Lp.ok (L:=qc8 n) (B:=tab) (cs:=qm n) (lo:=qfV n) (id:=1) rfl (ql (qk1 n) qf) (fun _ _=>rfl) h
noncomputable def qfW(n:Nat):Nat→St→PT (DEx×St):=fun _ _=>.fail
abbrev qbg:List It:=[.v (.t 1) T3,.fn (.t 4) 60 [] [],.v (.t 11) T3,.v (.t 12) T3,.row (.t 0) true T30 30]
abbrev qbY:List (DEx×List It):=[(.exit 4,[.v (.t 1) T3,.fn (.t 4) 60 [] [],.v (.t 11) T3,.v (.t 12) T3,.row (.t 0) true T30 30])]
noncomputable def qge(n:Nat)(rec:qc qbg→Option (qk qbY))(s:qc qbg):Option (qk qbY):=(qq tab (qm n) (qfW n) (subC [true,true,true,false,false,false,false,true,false,false,false] (qa Try.f112)) 3 (mkS qbg 90 s)).run (Lp.leaf 90 qbg qbY rec)
noncomputable def qc9(n:Nat):Lp:=⟨90,qbg,qbY,qj n (qge n)⟩
theorem qk2(n:Nat):qe (qm n).c (subC [true,true,true,false,false,false,false,true,false,false,false] (qa Try.f112)) 3=[]:=by kernel_rfl
theorem qkh(n:Nat)(st:St)(r:DEx×St)(h:((qc9 n).go st).Is r):DA Try.prog false (.loop (subC [true,true,true,false,false,false,false,true,false,false,false] (qa Try.f112))) st r:=Lp.ok (L:=qc9 n) (B:=tab) (cs:=qm n) (lo:=qfW n) (id:=2) rfl (ql (qk2 n) qf) (fun _ _=>rfl) h
noncomputable def qfX(n:Nat):Nat→St→PT (DEx×St):=fun k st=>match k with
 | 1=>(qc8 n).go st
 | 2=>(qc9 n).go st
 | _=>.fail
abbrev qbh:List It:=[.v (.t 1) T3,.fn (.t 4) 60 [] [],.v (.t 11) T3,.v (.t 12) T3,.row (.t 0) true T30 30]
abbrev qbZ:List (DEx×List It):=[(.exit 0,[.v (.t 11) T3,.row (.t 0) true T30 30])]
noncomputable def qgf(n:Nat)(rec:qc qbh→Option (qk qbZ))(s:qc qbh):Option (qk qbZ):=(qq tab (qm n) (qfX n) (subC [true,true,true,false,false,false] (qa Try.f112)) 1 (mkS qbh 90 s)).run (Lp.leaf 90 qbh qbZ rec)
noncomputable def qda(n:Nat):Lp:=⟨90,qbh,qbZ,qj n (qgf n)⟩
theorem qk3(n:Nat):qe (qm n).c (subC [true,true,true,false,false,false] (qa Try.f112)) 1=[(1,.loop (subC [true,true,true,false,false,false,false,false,false,false] (qa Try.f112))),(2,.loop (subC [true,true,true,false,false,false,false,true,false,false,false] (qa Try.f112)))]:=by kernel_rfl
theorem qki(n:Nat)(st:St)(r:DEx×St)(h:((qda n).go st).Is r):DA Try.prog false (.loop (subC [true,true,true,false,false,false] (qa Try.f112))) st r:=Lp.ok (L:=qda n) (B:=tab) (cs:=qm n) (lo:=qfX n) (id:=0) rfl (ql (qk3 n) (all_cons (fun st r h=>qkg n st r h) (all_cons (fun st r h=>qkh n st r h) qf))) (fun _ _=>rfl) h
noncomputable def qgg(n:Nat):Nat→St→PT (DEx×St):=fun k st=>match k with
 | 0=>(qda n).go st
 | _=>.fail
theorem qlm(n:Nat):qe (qm n).c (qa Try.f112) 0=[(0,.loop (subC [true,true,true,false,false,false] (qa Try.f112)))]:=by kernel_rfl
theorem qln:Try.f112.body=some (qa Try.f112):=by kernel_rfl
abbrev qdb:List It:=[.v (.t 1) T3,.v (.t 2) T3,.v (.t 3) T3,.fn (.t 4) 60 [] [],.row (.t 0) true T30 30]
abbrev qcZ:List (List It):=[[.v (.t 0) T3,.row (.t 1) true T30 30]]
noncomputable def qgC(n:Nat)(x:qc qdb):Option (qI qcZ):=runW tab (qm n) (qgg n) (qa Try.f112) qdb 5 90 [.tmp 10] qcZ x
noncomputable def qgD(n:Nat):Cw Try.prog:=⟨112,5,qdb,1,qcZ,qgC n,fun _ _ h=>qb2 (B:=tab) (cs:=qm n) (lo:=qgg n) (rs:=[.tmp 10]) Try.func112 (by kernel_rfl) qln (by kernel_rfl) (by decide) (ql (qlm n) (all_cons (fun st r h=>qki n st r h) qf)) h⟩
noncomputable def qi(n:Nat):CL Try.prog:=⟨[qc4 n],[],0,fun _=>false⟩
noncomputable def qg9(n:Nat):Nat→St→PT (DEx×St):=fun _ _=>.fail
abbrev qbD:List It:=[.v (.t 1) T3,.fn (.t 4) 60 [] [],.v (.t 12) T3,.v (.t 13) T3,.row (.t 0) true T30 30]
abbrev qcn:List (DEx×List It):=[(.exit 0,[.v (.t 1) T3,.fn (.t 4) 60 [] [],.v (.t 12) T3,.v (.t 13) T3,.row (.t 0) true T30 30])]
noncomputable def qht(n:Nat)(rec:qc qbD→Option (qk qcn))(s:qc qbD):Option (qk qcn):=(qq tab (qi n) (qg9 n) (subC [true,true,true,false,false,false] (qa Try.f113)) 1 (mkS qbD 178 s)).run (Lp.leaf 178 qbD qcn rec)
noncomputable def qec(n:Nat):Lp:=⟨178,qbD,qcn,qj n (qht n)⟩
theorem qmV(n:Nat):qe (qi n).c (subC [true,true,true,false,false,false] (qa Try.f113)) 1=[]:=by kernel_rfl
theorem qlY(n:Nat)(st:St)(r:DEx×St)(h:((qec n).go st).Is r):DA Try.prog false (.loop (subC [true,true,true,false,false,false] (qa Try.f113))) st r:=Lp.ok (L:=qec n) (B:=tab) (cs:=qi n) (lo:=qg9 n) (id:=0) rfl (ql (qmV n) qf) (fun _ _=>rfl) h
noncomputable def qha(n:Nat):Nat→St→PT (DEx×St):=fun _ _=>.fail
abbrev qbE:List It:=[.v (.t 1) T3,.fn (.t 4) 60 [] [],.v (.t 12) T3,.v (.t 13) T3,.row (.t 0) true T30 30]
abbrev qco:List (DEx×List It):=[(.exit 2,[.v (.t 1) T3,.fn (.t 4) 60 [] [],.v (.t 12) T3,.v (.t 13) T3,.row (.t 0) true T30 30])]
noncomputable def qhu(n:Nat)(rec:qc qbE→Option (qk qco))(s:qc qbE):Option (qk qco):=(qq tab (qi n) (qha n) (subC [true,true,true,true,false,false,false] (qa Try.f113)) 2 (mkS qbE 178 s)).run (Lp.leaf 178 qbE qco rec)
noncomputable def qed(n:Nat):Lp:=⟨178,qbE,qco,qj n (qhu n)⟩
theorem qmW(n:Nat):qe (qi n).c (subC [true,true,true,true,false,false,false] (qa Try.f113)) 2=[]:=by kernel_rfl
theorem qlZ(n:Nat)(st:St)(r:DEx×St)(h:((qed n).go st).Is r):DA Try.prog false (.loop (subC [true,true,true,true,false,false,false] (qa Try.f113))) st r:=Lp.ok (L:=qed n) (B:=tab) (cs:=qi n) (lo:=qha n) (id:=1) rfl (ql (qmW n) qf) (fun _ _=>rfl) h
noncomputable def qhb(n:Nat):Nat→St→PT (DEx×St):=fun _ _=>.fail
abbrev qbF:List It:=[.v (.t 1) T3,.fn (.t 4) 60 [] [],.v (.t 12) T3,.v (.t 13) T3,.row (.t 0) true T30 30]
abbrev qcp:List (DEx×List It):=[(.exit 6,[.v (.t 1) T3,.fn (.t 4) 60 [] [],.v (.t 12) T3,.v (.t 13) T3,.row (.t 0) true T30 30])]
noncomputable def qhv(n:Nat)(rec:qc qbF→Option (qk qcp))(s:qc qbF):Option (qk qcp):=(qq tab (qi n) (qhb n) (subC [true,true,true,true,true,true,true,true,true,false,false,false,false,false,false,false] (qa Try.f113)) 4 (mkS qbF 178 s)).run (Lp.leaf 178 qbF qcp rec)
noncomputable def qee(n:Nat):Lp:=⟨178,qbF,qcp,qj n (qhv n)⟩
theorem qmX(n:Nat):qe (qi n).c (subC [true,true,true,true,true,true,true,true,true,false,false,false,false,false,false,false] (qa Try.f113)) 4=[]:=by kernel_rfl
theorem ql0(n:Nat)(st:St)(r:DEx×St)(h:((qee n).go st).Is r):DA Try.prog false (.loop (subC [true,true,true,true,true,true,true,true,true,false,false,false,false,false,false,false] (qa Try.f113))) st r:=Lp.ok (L:=qee n) (B:=tab) (cs:=qi n) (lo:=qhb n) (id:=3) rfl (ql (qmX n) qf) (fun _ _=>rfl) h
noncomputable def qhc(n:Nat):Nat→St→PT (DEx×St):=fun _ _=>.fail
abbrev qbG:List It:=[.v (.t 1) T3,.fn (.t 4) 60 [] [],.v (.t 12) T3,.v (.t 13) T3,.row (.t 0) true T30 30]
abbrev qcq:List (DEx×List It):=[(.exit 8,[.v (.t 1) T3,.fn (.t 4) 60 [] [],.v (.t 12) T3,.v (.t 13) T3,.row (.t 0) true T30 30])]
noncomputable def qhw(n:Nat)(rec:qc qbG→Option (qk qcq))(s:qc qbG):Option (qk qcq):=(qq tab (qi n) (qhc n) (subC [true,true,true,true,true,true,true,true,true,false,false,false,false,true,false,false,false] (qa Try.f113)) 5 (mkS qbG 178 s)).run (Lp.leaf 178 qbG qcq rec)
noncomputable def qef(n:Nat):Lp:=⟨178,qbG,qcq,qj n (qhw n)⟩
theorem qmY(n:Nat):qe (qi n).c (subC [true,true,true,true,true,true,true,true,true,false,false,false,false,true,false,false,false] (qa Try.f113)) 5=[]:=by kernel_rfl
theorem ql1(n:Nat)(st:St)(r:DEx×St)(h:((qef n).go st).Is r):DA Try.prog false (.loop (subC [true,true,true,true,true,true,true,true,true,false,false,false,false,true,false,false,false] (qa Try.f113))) st r:=Lp.ok (L:=qef n) (B:=tab) (cs:=qi n) (lo:=qhc n) (id:=4) rfl (ql (qmY n) qf) (fun _ _=>rfl) h
noncomputable def qhd(n:Nat):Nat→St→PT (DEx×St):=fun k st=>match k with
 | 3=>(qee n).go st
 | 4=>(qef n).go st
 | _=>.fail
abbrev qbH:List It:=[.v (.t 1) T3,.fn (.t 4) 60 [] [],.v (.t 12) T3,.v (.t 13) T3,.row (.t 0) true T30 30]
abbrev qcr:List (DEx×List It):=[(.exit 4,[.v (.t 1) T3,.v (.t 13) T3,.row (.t 0) true T30 30])]
noncomputable def qhx(n:Nat)(rec:qc qbH→Option (qk qcr))(s:qc qbH):Option (qk qcr):=(qq tab (qi n) (qhd n) (subC [true,true,true,true,true,true,true,true,true,false,false,false] (qa Try.f113)) 3 (mkS qbH 178 s)).run (Lp.leaf 178 qbH qcr rec)
noncomputable def qeg(n:Nat):Lp:=⟨178,qbH,qcr,qj n (qhx n)⟩
theorem qmZ(n:Nat):qe (qi n).c (subC [true,true,true,true,true,true,true,true,true,false,false,false] (qa Try.f113)) 3=[(3,.loop (subC [true,true,true,true,true,true,true,true,true,false,false,false,false,false,false,false] (qa Try.f113))),(4,.loop (subC [true,true,true,true,true,true,true,true,true,false,false,false,false,true,false,false,false] (qa Try.f113)))]:=by kernel_rfl
theorem ql2(n:Nat)(st:St)(r:DEx×St)(h:((qeg n).go st).Is r):DA Try.prog false (.loop (subC [true,true,true,true,true,true,true,true,true,false,false,false] (qa Try.f113))) st r:=Lp.ok (L:=qeg n) (B:=tab) (cs:=qi n) (lo:=qhd n) (id:=2) rfl (ql (qmZ n) (all_cons (fun st r h=>ql0 n st r h) (all_cons (fun st r h=>ql1 n st r h) qf))) (fun _ _=>rfl) h
noncomputable def qhy(n:Nat):Nat→St→PT (DEx×St):=fun k st=>match k with
 | 0=>(qec n).go st
 | 1=>(qed n).go st
 | 2=>(qeg n).go st
 | _=>.fail
theorem qne(n:Nat):qe (qi n).c (qa Try.f113) 0=[(0,.loop (subC [true,true,true,false,false,false] (qa Try.f113))),(1,.loop (subC [true,true,true,true,false,false,false] (qa Try.f113))),(2,.loop (subC [true,true,true,true,true,true,true,true,true,false,false,false] (qa Try.f113)))]:=by kernel_rfl
theorem qnf:Try.f113.body=some (qa Try.f113):=by kernel_rfl
abbrev qeh:List It:=[.v (.t 1) T3,.v (.t 2) T3,.v (.t 3) T3,.fn (.t 4) 60 [] [],.row (.t 0) true T30 30]
abbrev qd3:List (List It):=[[.v (.t 0) T3,.v (.t 1) T4,.row (.t 2) true T30 30]]
noncomputable def qhH(n:Nat)(x:qc qeh):Option (qI qd3):=runW tab (qi n) (qhy n) (qa Try.f113) qeh 5 178 [.tmp 10,.tmp 11] qd3 x
noncomputable def qhI(n:Nat):Cw Try.prog:=⟨113,5,qeh,2,qd3,qhH n,fun _ _ h=>qb2 (B:=tab) (cs:=qi n) (lo:=qhy n) (rs:=[.tmp 10,.tmp 11]) Try.func113 (by kernel_rfl) qnf (by kernel_rfl) (by decide) (ql (qne n) (all_cons (fun st r h=>qlY n st r h) (all_cons (fun st r h=>qlZ n st r h) (all_cons (fun st r h=>ql2 n st r h) qf)))) h⟩
noncomputable def qP(n:Nat):CL Try.prog:=⟨[qc4 n,qyP n],[qyo n],0,fun _=>false⟩
noncomputable def qgh(n:Nat):Nat→St→PT (DEx×St):=fun _ _=>.fail
abbrev qbo:List It:=[.v (.t 1) T3,.v (.t 8) T3,.v (.t 10) T100,.v (.t 11) T3,.row (.t 0) true T30 30,.obj (.t 9) false 136 1,.v (.c 1 0) T136]
abbrev qb8:List (DEx×List It):=[(.exit 0,[.row (.t 0) true T30 30])]
noncomputable def qgE(n:Nat)(rec:qc qbo→Option (qk qb8))(s:qc qbo):Option (qk qb8):=(qq tab (qP n) (qgh n) (subC [true,true,false,true,true,true,false,false] (qa Try.f108)) 1 (mkS qbo 67 s)).run (Lp.leaf 67 qbo qb8 rec)
noncomputable def qdp(n:Nat):Lp:=⟨67,qbo,qb8,qj n (qgE n)⟩
theorem qlo(n:Nat):qe (qP n).c (subC [true,true,false,true,true,true,false,false] (qa Try.f108)) 1=[]:=by kernel_rfl
theorem qkr(n:Nat)(st:St)(r:DEx×St)(h:((qdp n).go st).Is r):DA Try.prog false (.loop (subC [true,true,false,true,true,true,false,false] (qa Try.f108))) st r:=Lp.ok (L:=qdp n) (B:=tab) (cs:=qP n) (lo:=qgh n) (id:=0) rfl (ql (qlo n) qf) (fun _ _=>rfl) h
noncomputable def qgF(n:Nat):Nat→St→PT (DEx×St):=fun k st=>match k with
 | 0=>(qdp n).go st
 | _=>.fail
theorem ql3(n:Nat):qe (qP n).c (qa Try.f108) 0=[(0,.loop (subC [true,true,false,true,true,true,false,false] (qa Try.f108)))]:=by kernel_rfl
theorem ql4:Try.f108.body=some (qa Try.f108):=by kernel_rfl
abbrev qdq:List It:=[.v (.t 1) T3,.v (.t 2) T3,.fn (.t 3) 60 [] [],.row (.t 0) true T30 30]
abbrev qdc:List (List It):=[[.row (.t 0) true T30 30]]
noncomputable def qgS(n:Nat)(x:qc qdq):Option (qI qdc):=runW tab (qP n) (qgF n) (qa Try.f108) qdq 4 67 [] qdc x
noncomputable def qgT(n:Nat):Cw Try.prog:=⟨108,4,qdq,0,qdc,qgS n,fun _ _ h=>qb2 (B:=tab) (cs:=qP n) (lo:=qgF n) (rs:=[]) Try.func108 (by kernel_rfl) ql4 (by kernel_rfl) (by decide) (ql (ql3 n) (all_cons (fun st r h=>qkr n st r h) qf)) h⟩
end Go.Proofs.Ytcjgodgpaokbnaa
