/- Printed: what functions of the program compute. -/
import Derived.Test.YtcjgodgpaokbnaaDnC
set_option linter.constructorNameAsVariable false
set_option linter.unusedSimpArgs false
set_option linter.unusedVariables false
set_option linter.unusedSectionVars false
namespace Go.Proofs.Ytcjgodgpaokbnaa
open Go Go.Proofs Go.RowKit
set_option maxRecDepth 20000
noncomputable def qnu(n:Nat):CL Try.prog:=⟨[],[],0,fun _=>false⟩
noncomputable def qsm(n:Nat):Nat→St→PT (DEx×St):=fun _ _=>.fail
theorem qzo(n:Nat):qe (qnu n).c (qa Try.f101) 0=[]:=by kernel_rfl
theorem qzp:Try.f101.body=some (qa Try.f101):=by kernel_rfl
abbrev qnv:List It:=[.obj (.t 0) true 136 1,.v (.c 0 0) T136]
abbrev qmV:List (List It):=[[.v (.t 0) T129,.obj (.t 1) true 136 1,.v (.c 0 0) T136]]
noncomputable def qs1(n:Nat)(x:qc qnv):Option (qC qmV):=runW tab (qnu n) (qsm n) (qa Try.f101) qnv 1 33 [.tmp 2] qmV x
noncomputable def qzq(n:Nat):Cw Try.prog:=⟨101,1,qnv,1,qmV,qs1 n,fun _ _ h=>qbT (B:=tab) (cs:=qnu n) (lo:=qsm n) (rs:=[.tmp 2]) Try.func101 (by kernel_rfl) qzp (by kernel_rfl) (by decide) (ql (qzo n) qf) h⟩
noncomputable def qoe(n:Nat):CL Try.prog:=⟨[qsj n],[],0,fun _=>false⟩
noncomputable def qs2(n:Nat):Nat→St→PT (DEx×St):=fun _ _=>.fail
theorem qzW(n:Nat):qe (qoe n).c (qa Try.f100) 0=[]:=by kernel_rfl
theorem qzX:Try.f100.body=some (qa Try.f100):=by kernel_rfl
abbrev qoV:List Ar:=[.d T3]
abbrev qoW:List Ty:=[T100]
noncomputable def qty(n:Nat)(x:qQ qoV):Option (qt qoW):=(qo tab (qoe n) (qs2 n) (qa Try.f100) 0 (q8 qoV 7 x)).run (qcK tab [.tmp 2] qoW)
noncomputable def qzY(n:Nat):Ct Try.prog:=⟨100,qoV,.ts qoW,qty n,fun _ _ h=>qcR (B:=tab) (cs:=qoe n) (lo:=qs2 n) (rs:=[.tmp 2]) Try.func100 (by kernel_rfl) qzX (by kernel_rfl) (by decide) (ql (qzW n) qf) h⟩
noncomputable def qbb(n:Nat):CL Try.prog:=⟨[qc7 n],[],0,fun _=>false⟩
noncomputable def qhu(n:Nat):Nat→St→PT (DEx×St):=fun _ _=>.fail
abbrev qbL:List It:=[.v (.t 2) T3,.v (.t 3) T3,.fn (.t 4) 60 [] [],.v (.t 10) T3,.row (.t 0) true T30 30]
abbrev qcB:List (DEx×List It):=[(.exit 0,[.row (.t 0) true T30 30]),(.ret,[.row (.t 0) true T30 30])]
noncomputable def qhI(n:Nat)(rec:qc qbL→Option (qk qcB))(s:qc qbL):Option (qk qcB):=(qo tab (qbb n) (qhu n) (subC [true,false,false] (qa Try.f115)) 1 (mkS qbL 82 s)).run (Lp.leaf 82 qbL qcB rec)
noncomputable def qex(n:Nat):Lp:=⟨82,qbL,qcB,qh n (qhI n)⟩
theorem qnw(n:Nat):qe (qbb n).c (subC [true,false,false] (qa Try.f115)) 1=[]:=by kernel_rfl
theorem qmu(n:Nat)(st:St)(r:DEx×St)(h:((qex n).go st).Is r):DA Try.prog false (.loop (subC [true,false,false] (qa Try.f115))) st r:=Lp.ok (L:=qex n) (B:=tab) (cs:=qbb n) (lo:=qhu n) (id:=0) rfl (ql (qnw n) qf) (fun _ _=>rfl) h
noncomputable def qhJ(n:Nat):Nat→St→PT (DEx×St):=fun k st=>match k with
 | 0=>(qex n).go st
 | _=>.fail
theorem qnS(n:Nat):qe (qbb n).c (qa Try.f115) 0=[(0,.loop (subC [true,false,false] (qa Try.f115)))]:=by kernel_rfl
theorem qnT:Try.f115.body=some (qa Try.f115):=by kernel_rfl
abbrev qey:List It:=[.v (.t 1) T3,.v (.t 2) T3,.v (.t 3) T3,.fn (.t 4) 60 [] [],.row (.t 0) true T30 30]
abbrev qef:List (List It):=[[.row (.t 0) true T30 30]]
noncomputable def qhZ(n:Nat)(x:qc qey):Option (qC qef):=runW tab (qbb n) (qhJ n) (qa Try.f115) qey 5 82 [] qef x
noncomputable def qnU(n:Nat):Cw Try.prog:=⟨115,5,qey,0,qef,qhZ n,fun _ _ h=>qbT (B:=tab) (cs:=qbb n) (lo:=qhJ n) (rs:=[]) Try.func115 (by kernel_rfl) qnT (by kernel_rfl) (by decide) (ql (qnS n) (all_cons (fun st r h=>qmu n st r h) qf)) h⟩
noncomputable def qy(n:Nat):CL Try.prog:=⟨[qc7 n],[qnU n],0,fun _=>false⟩
noncomputable def qhv(n:Nat):Nat→St→PT (DEx×St):=fun _ _=>.fail
abbrev qbM:List It:=[.fn (.t 3) 60 [] [],.v (.t 8) T3,.v (.t 9) T3,.v (.t 10) T3,.v (.t 11) T3,.row (.t 0) true T30 30]
abbrev qcC:List (DEx×List It):=[(.exit 0,[.fn (.t 3) 60 [] [],.v (.t 8) T3,.v (.t 9) T3,.v (.t 10) T3,.row (.t 0) true T30 30])]
noncomputable def qhK(n:Nat)(rec:qc qbM→Option (qk qcC))(s:qc qbM):Option (qk qcC):=(qo tab (qy n) (qhv n) (subC [true,true,true,false,true,false,false] (qa Try.f107)) 1 (mkS qbM 60 s)).run (Lp.leaf 60 qbM qcC rec)
noncomputable def qez(n:Nat):Lp:=⟨60,qbM,qcC,qh n (qhK n)⟩
theorem qnx(n:Nat):qe (qy n).c (subC [true,true,true,false,true,false,false] (qa Try.f107)) 1=[]:=by kernel_rfl
theorem qmv(n:Nat)(st:St)(r:DEx×St)(h:((qez n).go st).Is r):DA Try.prog false (.loop (subC [true,true,true,false,true,false,false] (qa Try.f107))) st r:=Lp.ok (L:=qez n) (B:=tab) (cs:=qy n) (lo:=qhv n) (id:=0) rfl (ql (qnx n) qf) (fun _ _=>rfl) h
noncomputable def qhw(n:Nat):Nat→St→PT (DEx×St):=fun _ _=>.fail
abbrev qbN:List It:=[.fn (.t 3) 60 [] [],.v (.t 8) T3,.v (.t 9) T3,.v (.t 12) T3,.row (.t 0) true T30 30]
abbrev qcD:List (DEx×List It):=[(.exit 2,[.row (.t 0) true T30 30])]
noncomputable def qhL(n:Nat)(rec:qc qbN→Option (qk qcD))(s:qc qbN):Option (qk qcD):=(qo tab (qy n) (qhw n) (subC [true,true,true,true,true,false,false] (qa Try.f107)) 2 (mkS qbN 60 s)).run (Lp.leaf 60 qbN qcD rec)
noncomputable def qeA(n:Nat):Lp:=⟨60,qbN,qcD,qh n (qhL n)⟩
theorem qny(n:Nat):qe (qy n).c (subC [true,true,true,true,true,false,false] (qa Try.f107)) 2=[]:=by kernel_rfl
theorem qmw(n:Nat)(st:St)(r:DEx×St)(h:((qeA n).go st).Is r):DA Try.prog false (.loop (subC [true,true,true,true,true,false,false] (qa Try.f107))) st r:=Lp.ok (L:=qeA n) (B:=tab) (cs:=qy n) (lo:=qhw n) (id:=1) rfl (ql (qny n) qf) (fun _ _=>rfl) h
noncomputable def qhM(n:Nat):Nat→St→PT (DEx×St):=fun k st=>match k with
 | 0=>(qez n).go st
 | 1=>(qeA n).go st
 | _=>.fail
theorem qnV(n:Nat):qe (qy n).c (qa Try.f107) 0=[(0,.loop (subC [true,true,true,false,true,false,false] (qa Try.f107))),(1,.loop (subC [true,true,true,true,true,false,false] (qa Try.f107)))]:=by kernel_rfl
theorem qnW:Try.f107.body=some (qa Try.f107):=by kernel_rfl
abbrev qeB:List It:=[.v (.t 1) T3,.v (.t 2) T3,.fn (.t 3) 60 [] [],.row (.t 0) true T30 30]
abbrev qeg:List (List It):=[[.row (.t 0) true T30 30]]
noncomputable def qh0(n:Nat)(x:qc qeB):Option (qC qeg):=runW tab (qy n) (qhM n) (qa Try.f107) qeB 4 60 [] qeg x
noncomputable def qh1(n:Nat):Cw Try.prog:=⟨107,4,qeB,0,qeg,qh0 n,fun _ _ h=>qbT (B:=tab) (cs:=qy n) (lo:=qhM n) (rs:=[]) Try.func107 (by kernel_rfl) qnW (by kernel_rfl) (by decide) (ql (qnV n) (all_cons (fun st r h=>qmv n st r h) (all_cons (fun st r h=>qmw n st r h) qf))) h⟩
noncomputable def qT(n:Nat):CL Try.prog:=⟨[qc7 n],[],0,fun _=>false⟩
noncomputable def qgG(n:Nat):Nat→St→PT (DEx×St):=fun _ _=>.fail
abbrev qbq:List It:=[.v (.t 8) T3,.v (.t 9) T3,.row (.t 0) true T30 30]
abbrev qcd:List (DEx×List It):=[(.exit 0,[.row (.t 0) true T30 30])]
noncomputable def qgW(n:Nat)(rec:qc qbq→Option (qk qcd))(s:qc qbq):Option (qk qcd):=(qo tab (qT n) (qgG n) (subC [true,true,false,false] (qa Try.f110)) 1 (mkS qbq 34 s)).run (Lp.leaf 34 qbq qcd rec)
noncomputable def qdP(n:Nat):Lp:=⟨34,qbq,qcd,qh n (qgW n)⟩
theorem qme(n:Nat):qe (qT n).c (subC [true,true,false,false] (qa Try.f110)) 1=[]:=by kernel_rfl
theorem qk8(n:Nat)(st:St)(r:DEx×St)(h:((qdP n).go st).Is r):DA Try.prog false (.loop (subC [true,true,false,false] (qa Try.f110))) st r:=Lp.ok (L:=qdP n) (B:=tab) (cs:=qT n) (lo:=qgG n) (id:=0) rfl (ql (qme n) qf) (fun _ _=>rfl) h
noncomputable def qgX(n:Nat):Nat→St→PT (DEx×St):=fun k st=>match k with
 | 0=>(qdP n).go st
 | _=>.fail
theorem qmx(n:Nat):qe (qT n).c (qa Try.f110) 0=[(0,.loop (subC [true,true,false,false] (qa Try.f110)))]:=by kernel_rfl
theorem qmy:Try.f110.body=some (qa Try.f110):=by kernel_rfl
abbrev qdQ:List It:=[.v (.t 1) T3,.v (.t 2) T3,.fn (.t 3) 60 [] [],.row (.t 0) true T30 30]
abbrev qds:List (List It):=[[.row (.t 0) true T30 30]]
noncomputable def qg4(n:Nat)(x:qc qdQ):Option (qC qds):=runW tab (qT n) (qgX n) (qa Try.f110) qdQ 4 34 [] qds x
noncomputable def qg5(n:Nat):Cw Try.prog:=⟨110,4,qdQ,0,qds,qg4 n,fun _ _ h=>qbT (B:=tab) (cs:=qT n) (lo:=qgX n) (rs:=[]) Try.func110 (by kernel_rfl) qmy (by kernel_rfl) (by decide) (ql (qmx n) (all_cons (fun st r h=>qk8 n st r h) qf)) h⟩
noncomputable def qe0(n:Nat):CL Try.prog:=⟨[qc7 n],[],0,fun _=>false⟩
noncomputable def qip(n:Nat):Nat→St→PT (DEx×St):=fun _ _=>.fail
theorem qoD(n:Nat):qe (qe0 n).c (qa Try.f118) 0=[]:=by kernel_rfl
theorem qoE:Try.f118.body=some (qa Try.f118):=by kernel_rfl
abbrev qe1:List It:=[.v (.t 0) T25,.v (.t 1) T3,.v (.t 2) T3,.fn (.t 4) 60 [] [],.obj (.t 3) true 3 1,.v (.c 0 0) T3]
abbrev qeL:List (List It):=[[.v (.t 0) T3,.v (.t 1) T3,.obj (.t 2) true 3 1,.v (.c 0 0) T3]]
noncomputable def qiE(n:Nat)(x:qc qe1):Option (qC qeL):=runW tab (qe0 n) (qip n) (qa Try.f118) qe1 5 32 [.tmp 10,.tmp 11] qeL x
noncomputable def qoF(n:Nat):Cw Try.prog:=⟨118,5,qe1,2,qeL,qiE n,fun _ _ h=>qbT (B:=tab) (cs:=qe0 n) (lo:=qip n) (rs:=[.tmp 10,.tmp 11]) Try.func118 (by kernel_rfl) qoE (by kernel_rfl) (by decide) (ql (qoD n) qf) h⟩
noncomputable def qe2(n:Nat):CL Try.prog:=⟨[qc7 n],[qoF n],0,fun _=>false⟩
noncomputable def qiq(n:Nat):Nat→St→PT (DEx×St):=fun _ _=>.fail
theorem qoG(n:Nat):qe (qe2 n).c (qa Try.f117) 0=[]:=by kernel_rfl
theorem qoH:Try.f117.body=some (qa Try.f117):=by kernel_rfl
abbrev qe3:List It:=[.v (.t 0) T25,.v (.t 1) T3,.v (.t 2) T3,.v (.t 3) T3,.fn (.t 5) 60 [] [],.obj (.t 4) true 3 1,.v (.c 0 0) T3]
abbrev qeM:List (List It):=[[.v (.t 0) T3,.obj (.t 1) true 3 1,.v (.c 0 0) T3]]
noncomputable def qiF(n:Nat)(x:qc qe3):Option (qC qeM):=runW tab (qe2 n) (qiq n) (qa Try.f117) qe3 6 41 [.tmp 12] qeM x
noncomputable def qiG(n:Nat):Cw Try.prog:=⟨117,6,qe3,1,qeM,qiF n,fun _ _ h=>qbT (B:=tab) (cs:=qe2 n) (lo:=qiq n) (rs:=[.tmp 12]) Try.func117 (by kernel_rfl) qoH (by kernel_rfl) (by decide) (ql (qoG n) qf) h⟩
noncomputable def qc9(n:Nat):CL Try.prog:=⟨[qc7 n],[qiG n],0,fun _=>false⟩
noncomputable def qgi(n:Nat):Nat→St→PT (DEx×St):=fun _ _=>.fail
theorem qlB(n:Nat):qe (qc9 n).c (qa Try.f116) 0=[]:=by kernel_rfl
theorem qlC:Try.f116.body=some (qa Try.f116):=by kernel_rfl
abbrev qda:List It:=[.v (.t 0) T25,.v (.t 1) T3,.fn (.t 3) 60 [] [],.obj (.t 2) true 3 1,.v (.c 0 0) T3]
abbrev qc0:List (List It):=[[.v (.t 0) T3,.obj (.t 1) true 3 1,.v (.c 0 0) T3]]
noncomputable def qgH(n:Nat)(x:qc qda):Option (qC qc0):=runW tab (qc9 n) (qgi n) (qa Try.f116) qda 4 18 [.tmp 8] qc0 x
noncomputable def qlD(n:Nat):Cw Try.prog:=⟨116,4,qda,1,qc0,qgH n,fun _ _ h=>qbT (B:=tab) (cs:=qc9 n) (lo:=qgi n) (rs:=[.tmp 8]) Try.func116 (by kernel_rfl) qlC (by kernel_rfl) (by decide) (ql (qlB n) qf) h⟩
noncomputable def qd9(n:Nat):CL Try.prog:=⟨[qc7 n],[qlD n,qiG n],0,fun _=>false⟩
noncomputable def qhd(n:Nat):Nat→St→PT (DEx×St):=fun _ _=>.fail
theorem qnd(n:Nat):qe (qd9 n).c (qa Try.f109) 0=[]:=by kernel_rfl
theorem qne:Try.f109.body=some (qa Try.f109):=by kernel_rfl
abbrev qeh:List Ar:=[.d T25,.d T3,.d T3,.fn 60 [] []]
abbrev qei:List Ty:=[T3,T118]
noncomputable def qhx(n:Nat)(x:qQ qeh):Option (qt qei):=(qo tab (qd9 n) (qhd n) (qa Try.f109) 0 (q8 qeh 63 x)).run (qcK tab [.tmp 8,.tmp 9] qei)
noncomputable def qhy(n:Nat):Ct Try.prog:=⟨109,qeh,.ts qei,qhx n,fun _ _ h=>qcR (B:=tab) (cs:=qd9 n) (lo:=qhd n) (rs:=[.tmp 8,.tmp 9]) Try.func109 (by kernel_rfl) qne (by kernel_rfl) (by decide) (ql (qnd n) qf) h⟩
noncomputable def qi(n:Nat):CL Try.prog:=⟨[qc7 n],[],0,fun _=>false⟩
noncomputable def qfb(n:Nat):Nat→St→PT (DEx×St):=fun _ _=>.fail
abbrev qU:List It:=[.v (.t 1) T3,.v (.t 2) T3,.fn (.t 3) 60 [] [],.v (.t 9) T3,.v (.t 10) T3,.row (.t 0) true T30 30]
abbrev qbz:List (DEx×List It):=[(.exit 2,[.v (.t 1) T3,.v (.t 2) T3,.fn (.t 3) 60 [] [],.v (.t 9) T3,.v (.t 10) T3,.row (.t 0) true T30 30])]
noncomputable def qfi(n:Nat)(rec:qc qU→Option (qk qbz))(s:qc qU):Option (qk qbz):=(qo tab (qi n) (qfb n) (subC [true,true,false,true,false,false,true,false,false,false,false,false] (qa Try.f111)) 2 (mkS qU 141 s)).run (Lp.leaf 141 qU qbz rec)
noncomputable def qcE(n:Nat):Lp:=⟨141,qU,qbz,qh n (qfi n)⟩
theorem qj2(n:Nat):qe (qi n).c (subC [true,true,false,true,false,false,true,false,false,false,false,false] (qa Try.f111)) 2=[]:=by kernel_rfl
theorem qjq(n:Nat)(st:St)(r:DEx×St)(h:((qcE n).go st).Is r):DA Try.prog false (.loop (subC [true,true,false,true,false,false,true,false,false,false,false,false] (qa Try.f111))) st r:=Lp.ok (L:=qcE n) (B:=tab) (cs:=qi n) (lo:=qfb n) (id:=1) rfl (ql (qj2 n) qf) (fun _ _=>rfl) h
noncomputable def qfc(n:Nat):Nat→St→PT (DEx×St):=fun _ _=>.fail
abbrev qV:List It:=[.v (.t 1) T3,.v (.t 2) T3,.fn (.t 3) 60 [] [],.v (.t 9) T3,.v (.t 10) T3,.v (.t 11) T3,.row (.t 0) true T30 30]
abbrev qbA:List (DEx×List It):=[(.exit 4,[.v (.t 1) T3,.v (.t 2) T3,.fn (.t 3) 60 [] [],.v (.t 9) T3,.v (.t 10) T3,.row (.t 0) true T30 30])]
noncomputable def qfj(n:Nat)(rec:qc qV→Option (qk qbA))(s:qc qV):Option (qk qbA):=(qo tab (qi n) (qfc n) (subC [true,true,false,true,false,false,true,false,false,true,true,true,true,false,true,false,true,false,false] (qa Try.f111)) 3 (mkS qV 141 s)).run (Lp.leaf 141 qV qbA rec)
noncomputable def qcF(n:Nat):Lp:=⟨141,qV,qbA,qh n (qfj n)⟩
theorem qj3(n:Nat):qe (qi n).c (subC [true,true,false,true,false,false,true,false,false,true,true,true,true,false,true,false,true,false,false] (qa Try.f111)) 3=[]:=by kernel_rfl
theorem qjr(n:Nat)(st:St)(r:DEx×St)(h:((qcF n).go st).Is r):DA Try.prog false (.loop (subC [true,true,false,true,false,false,true,false,false,true,true,true,true,false,true,false,true,false,false] (qa Try.f111))) st r:=Lp.ok (L:=qcF n) (B:=tab) (cs:=qi n) (lo:=qfc n) (id:=2) rfl (ql (qj3 n) qf) (fun _ _=>rfl) h
noncomputable def qfd(n:Nat):Nat→St→PT (DEx×St):=fun _ _=>.fail
abbrev qW:List It:=[.v (.t 1) T3,.v (.t 2) T3,.fn (.t 3) 60 [] [],.v (.t 9) T3,.v (.t 10) T3,.v (.t 12) T3,.row (.t 0) true T30 30]
abbrev qbB:List (DEx×List It):=[(.exit 6,[.v (.t 1) T3,.v (.t 2) T3,.fn (.t 3) 60 [] [],.v (.t 9) T3,.v (.t 10) T3,.row (.t 0) true T30 30])]
noncomputable def qfk(n:Nat)(rec:qc qW→Option (qk qbB))(s:qc qW):Option (qk qbB):=(qo tab (qi n) (qfd n) (subC [true,true,false,true,false,false,true,false,false,true,true,true,true,true,true,false,true,false,false] (qa Try.f111)) 4 (mkS qW 141 s)).run (Lp.leaf 141 qW qbB rec)
noncomputable def qcG(n:Nat):Lp:=⟨141,qW,qbB,qh n (qfk n)⟩
theorem qj4(n:Nat):qe (qi n).c (subC [true,true,false,true,false,false,true,false,false,true,true,true,true,true,true,false,true,false,false] (qa Try.f111)) 4=[]:=by kernel_rfl
theorem qjs(n:Nat)(st:St)(r:DEx×St)(h:((qcG n).go st).Is r):DA Try.prog false (.loop (subC [true,true,false,true,false,false,true,false,false,true,true,true,true,true,true,false,true,false,false] (qa Try.f111))) st r:=Lp.ok (L:=qcG n) (B:=tab) (cs:=qi n) (lo:=qfd n) (id:=3) rfl (ql (qj4 n) qf) (fun _ _=>rfl) h
noncomputable def qfe(n:Nat):Nat→St→PT (DEx×St):=fun k st=>match k with
 | 1=>(qcE n).go st
 | 2=>(qcF n).go st
 | 3=>(qcG n).go st
 | _=>.fail
abbrev qX:List It:=[.v (.t 1) T3,.v (.t 2) T3,.fn (.t 3) 60 [] [],.v (.t 9) T3,.v (.t 10) T3,.row (.t 0) true T30 30]
abbrev qbC:List (DEx×List It):=[(.exit 0,[.row (.t 0) true T30 30]),(.ret,[.v (.t 8) T4,.row (.t 0) true T30 30])]
noncomputable def qfl(n:Nat)(rec:qc qX→Option (qk qbC))(s:qc qX):Option (qk qbC):=(qo tab (qi n) (qfe n) (subC [true,true,false,true,false,false] (qa Try.f111)) 1 (mkS qX 141 s)).run (Lp.leaf 141 qX qbC rec)
noncomputable def qcH(n:Nat):Lp:=⟨141,qX,qbC,qh n (qfl n)⟩
theorem qj5(n:Nat):qe (qi n).c (subC [true,true,false,true,false,false] (qa Try.f111)) 1=[(1,.loop (subC [true,true,false,true,false,false,true,false,false,false,false,false] (qa Try.f111))),(2,.loop (subC [true,true,false,true,false,false,true,false,false,true,true,true,true,false,true,false,true,false,false] (qa Try.f111))),(3,.loop (subC [true,true,false,true,false,false,true,false,false,true,true,true,true,true,true,false,true,false,false] (qa Try.f111)))]:=by kernel_rfl
theorem qjt(n:Nat)(st:St)(r:DEx×St)(h:((qcH n).go st).Is r):DA Try.prog false (.loop (subC [true,true,false,true,false,false] (qa Try.f111))) st r:=Lp.ok (L:=qcH n) (B:=tab) (cs:=qi n) (lo:=qfe n) (id:=0) rfl (ql (qj5 n) (all_cons (fun st r h=>qjq n st r h) (all_cons (fun st r h=>qjr n st r h) (all_cons (fun st r h=>qjs n st r h) qf)))) (fun _ _=>rfl) h
noncomputable def qfm(n:Nat):Nat→St→PT (DEx×St):=fun k st=>match k with
 | 0=>(qcH n).go st
 | _=>.fail
theorem qkd(n:Nat):qe (qi n).c (qa Try.f111) 0=[(0,.loop (subC [true,true,false,true,false,false] (qa Try.f111)))]:=by kernel_rfl
theorem qke:Try.f111.body=some (qa Try.f111):=by kernel_rfl
abbrev qcI:List It:=[.v (.t 1) T3,.v (.t 2) T3,.fn (.t 3) 60 [] [],.row (.t 0) true T30 30]
abbrev qcy:List (List It):=[[.v (.t 0) T4,.row (.t 1) true T30 30]]
noncomputable def qfr(n:Nat)(x:qc qcI):Option (qC qcy):=runW tab (qi n) (qfm n) (qa Try.f111) qcI 4 141 [.tmp 8] qcy x
noncomputable def qfs(n:Nat):Cw Try.prog:=⟨111,4,qcI,1,qcy,qfr n,fun _ _ h=>qbT (B:=tab) (cs:=qi n) (lo:=qfm n) (rs:=[.tmp 8]) Try.func111 (by kernel_rfl) qke (by kernel_rfl) (by decide) (ql (qkd n) (all_cons (fun st r h=>qjt n st r h) qf)) h⟩
noncomputable def qm(n:Nat):CL Try.prog:=⟨[qc7 n],[],0,fun _=>false⟩
noncomputable def qf1(n:Nat):Nat→St→PT (DEx×St):=fun _ _=>.fail
abbrev qbf:List It:=[.v (.t 1) T3,.fn (.t 4) 60 [] [],.v (.t 11) T3,.v (.t 12) T3,.row (.t 0) true T30 30]
abbrev qb0:List (DEx×List It):=[(.exit 2,[.v (.t 1) T3,.fn (.t 4) 60 [] [],.v (.t 11) T3,.v (.t 12) T3,.row (.t 0) true T30 30])]
noncomputable def qgj(n:Nat)(rec:qc qbf→Option (qk qb0))(s:qc qbf):Option (qk qb0):=(qo tab (qm n) (qf1 n) (subC [true,true,true,false,false,false,false,false,false,false] (qa Try.f112)) 2 (mkS qbf 90 s)).run (Lp.leaf 90 qbf qb0 rec)
noncomputable def qdb(n:Nat):Lp:=⟨90,qbf,qb0,qh n (qgj n)⟩
theorem qlj(n:Nat):qe (qm n).c (subC [true,true,true,false,false,false,false,false,false,false] (qa Try.f112)) 2=[]:=by kernel_rfl
theorem qkx(n:Nat)(st:St)(r:DEx×St)(h:((qdb n).go st).Is r):DA Try.prog false (.loop (subC [true,true,true,false,false,false,false,false,false,false] (qa Try.f112))) st r:=Lp.ok (L:=qdb n) (B:=tab) (cs:=qm n) (lo:=qf1 n) (id:=1) rfl (ql (qlj n) qf) (fun _ _=>rfl) h
noncomputable def qf2(n:Nat):Nat→St→PT (DEx×St):=fun _ _=>.fail
abbrev qbg:List It:=[.v (.t 1) T3,.fn (.t 4) 60 [] [],.v (.t 11) T3,.v (.t 12) T3,.row (.t 0) true T30 30]
abbrev qb1:List (DEx×List It):=[(.exit 4,[.v (.t 1) T3,.fn (.t 4) 60 [] [],.v (.t 11) T3,.v (.t 12) T3,.row (.t 0) true T30 30])]
noncomputable def qgk(n:Nat)(rec:qc qbg→Option (qk qb1))(s:qc qbg):Option (qk qb1):=(qo tab (qm n) (qf2 n) (subC [true,true,true,false,false,false,false,true,false,false,false] (qa Try.f112)) 3 (mkS qbg 90 s)).run (Lp.leaf 90 qbg qb1 rec)
noncomputable def qdc(n:Nat):Lp:=⟨90,qbg,qb1,qh n (qgk n)⟩
theorem qlk(n:Nat):qe (qm n).c (subC [true,true,true,false,false,false,false,true,false,false,false] (qa Try.f112)) 3=[]:=by kernel_rfl
theorem qky(n:Nat)(st:St)(r:DEx×St)(h:((qdc n).go st).Is r):DA Try.prog false (.loop (subC [true,true,true,false,false,false,false,true,false,false,false] (qa Try.f112))) st r:=Lp.ok (L:=qdc n) (B:=tab) (cs:=qm n) (lo:=qf2 n) (id:=2) rfl (ql (qlk n) qf) (fun _ _=>rfl) h
noncomputable def qf3(n:Nat):Nat→St→PT (DEx×St):=fun k st=>match k with
 | 1=>(qdb n).go st
 | 2=>(qdc n).go st
 | _=>.fail
abbrev qbh:List It:=[.v (.t 1) T3,.fn (.t 4) 60 [] [],.v (.t 11) T3,.v (.t 12) T3,.row (.t 0) true T30 30]
abbrev qb2:List (DEx×List It):=[(.exit 0,[.v (.t 11) T3,.row (.t 0) true T30 30])]
noncomputable def qgl(n:Nat)(rec:qc qbh→Option (qk qb2))(s:qc qbh):Option (qk qb2):=(qo tab (qm n) (qf3 n) (subC [true,true,true,false,false,false] (qa Try.f112)) 1 (mkS qbh 90 s)).run (Lp.leaf 90 qbh qb2 rec)
noncomputable def qdd(n:Nat):Lp:=⟨90,qbh,qb2,qh n (qgl n)⟩
theorem qll(n:Nat):qe (qm n).c (subC [true,true,true,false,false,false] (qa Try.f112)) 1=[(1,.loop (subC [true,true,true,false,false,false,false,false,false,false] (qa Try.f112))),(2,.loop (subC [true,true,true,false,false,false,false,true,false,false,false] (qa Try.f112)))]:=by kernel_rfl
theorem qkz(n:Nat)(st:St)(r:DEx×St)(h:((qdd n).go st).Is r):DA Try.prog false (.loop (subC [true,true,true,false,false,false] (qa Try.f112))) st r:=Lp.ok (L:=qdd n) (B:=tab) (cs:=qm n) (lo:=qf3 n) (id:=0) rfl (ql (qll n) (all_cons (fun st r h=>qkx n st r h) (all_cons (fun st r h=>qky n st r h) qf))) (fun _ _=>rfl) h
noncomputable def qgm(n:Nat):Nat→St→PT (DEx×St):=fun k st=>match k with
 | 0=>(qdd n).go st
 | _=>.fail
theorem qlE(n:Nat):qe (qm n).c (qa Try.f112) 0=[(0,.loop (subC [true,true,true,false,false,false] (qa Try.f112)))]:=by kernel_rfl
theorem qlF:Try.f112.body=some (qa Try.f112):=by kernel_rfl
abbrev qde:List It:=[.v (.t 1) T3,.v (.t 2) T3,.v (.t 3) T3,.fn (.t 4) 60 [] [],.row (.t 0) true T30 30]
abbrev qc1:List (List It):=[[.v (.t 0) T3,.row (.t 1) true T30 30]]
noncomputable def qgI(n:Nat)(x:qc qde):Option (qC qc1):=runW tab (qm n) (qgm n) (qa Try.f112) qde 5 90 [.tmp 10] qc1 x
noncomputable def qgJ(n:Nat):Cw Try.prog:=⟨112,5,qde,1,qc1,qgI n,fun _ _ h=>qbT (B:=tab) (cs:=qm n) (lo:=qgm n) (rs:=[.tmp 10]) Try.func112 (by kernel_rfl) qlF (by kernel_rfl) (by decide) (ql (qlE n) (all_cons (fun st r h=>qkz n st r h) qf)) h⟩
noncomputable def qj(n:Nat):CL Try.prog:=⟨[qc7 n],[],0,fun _=>false⟩
noncomputable def qhe(n:Nat):Nat→St→PT (DEx×St):=fun _ _=>.fail
abbrev qbF:List It:=[.v (.t 1) T3,.fn (.t 4) 60 [] [],.v (.t 12) T3,.v (.t 13) T3,.row (.t 0) true T30 30]
abbrev qcr:List (DEx×List It):=[(.exit 0,[.v (.t 1) T3,.fn (.t 4) 60 [] [],.v (.t 12) T3,.v (.t 13) T3,.row (.t 0) true T30 30])]
noncomputable def qhz(n:Nat)(rec:qc qbF→Option (qk qcr))(s:qc qbF):Option (qk qcr):=(qo tab (qj n) (qhe n) (subC [true,true,true,false,false,false] (qa Try.f113)) 1 (mkS qbF 178 s)).run (Lp.leaf 178 qbF qcr rec)
noncomputable def qej(n:Nat):Lp:=⟨178,qbF,qcr,qh n (qhz n)⟩
theorem qnf(n:Nat):qe (qj n).c (subC [true,true,true,false,false,false] (qa Try.f113)) 1=[]:=by kernel_rfl
theorem qmf(n:Nat)(st:St)(r:DEx×St)(h:((qej n).go st).Is r):DA Try.prog false (.loop (subC [true,true,true,false,false,false] (qa Try.f113))) st r:=Lp.ok (L:=qej n) (B:=tab) (cs:=qj n) (lo:=qhe n) (id:=0) rfl (ql (qnf n) qf) (fun _ _=>rfl) h
noncomputable def qhf(n:Nat):Nat→St→PT (DEx×St):=fun _ _=>.fail
abbrev qbG:List It:=[.v (.t 1) T3,.fn (.t 4) 60 [] [],.v (.t 12) T3,.v (.t 13) T3,.row (.t 0) true T30 30]
abbrev qcs:List (DEx×List It):=[(.exit 2,[.v (.t 1) T3,.fn (.t 4) 60 [] [],.v (.t 12) T3,.v (.t 13) T3,.row (.t 0) true T30 30])]
noncomputable def qhA(n:Nat)(rec:qc qbG→Option (qk qcs))(s:qc qbG):Option (qk qcs):=(qo tab (qj n) (qhf n) (subC [true,true,true,true,false,false,false] (qa Try.f113)) 2 (mkS qbG 178 s)).run (Lp.leaf 178 qbG qcs rec)
noncomputable def qek(n:Nat):Lp:=⟨178,qbG,qcs,qh n (qhA n)⟩
theorem qng(n:Nat):qe (qj n).c (subC [true,true,true,true,false,false,false] (qa Try.f113)) 2=[]:=by kernel_rfl
theorem qmg(n:Nat)(st:St)(r:DEx×St)(h:((qek n).go st).Is r):DA Try.prog false (.loop (subC [true,true,true,true,false,false,false] (qa Try.f113))) st r:=Lp.ok (L:=qek n) (B:=tab) (cs:=qj n) (lo:=qhf n) (id:=1) rfl (ql (qng n) qf) (fun _ _=>rfl) h
noncomputable def qhg(n:Nat):Nat→St→PT (DEx×St):=fun _ _=>.fail
abbrev qbH:List It:=[.v (.t 1) T3,.fn (.t 4) 60 [] [],.v (.t 12) T3,.v (.t 13) T3,.row (.t 0) true T30 30]
abbrev qct:List (DEx×List It):=[(.exit 6,[.v (.t 1) T3,.fn (.t 4) 60 [] [],.v (.t 12) T3,.v (.t 13) T3,.row (.t 0) true T30 30])]
noncomputable def qhB(n:Nat)(rec:qc qbH→Option (qk qct))(s:qc qbH):Option (qk qct):=(qo tab (qj n) (qhg n) (subC [true,true,true,true,true,true,true,true,true,false,false,false,false,false,false,false] (qa Try.f113)) 4 (mkS qbH 178 s)).run (Lp.leaf 178 qbH qct rec)
noncomputable def qel(n:Nat):Lp:=⟨178,qbH,qct,qh n (qhB n)⟩
theorem qnh(n:Nat):qe (qj n).c (subC [true,true,true,true,true,true,true,true,true,false,false,false,false,false,false,false] (qa Try.f113)) 4=[]:=by kernel_rfl
theorem qmh(n:Nat)(st:St)(r:DEx×St)(h:((qel n).go st).Is r):DA Try.prog false (.loop (subC [true,true,true,true,true,true,true,true,true,false,false,false,false,false,false,false] (qa Try.f113))) st r:=Lp.ok (L:=qel n) (B:=tab) (cs:=qj n) (lo:=qhg n) (id:=3) rfl (ql (qnh n) qf) (fun _ _=>rfl) h
noncomputable def qhh(n:Nat):Nat→St→PT (DEx×St):=fun _ _=>.fail
abbrev qbI:List It:=[.v (.t 1) T3,.fn (.t 4) 60 [] [],.v (.t 12) T3,.v (.t 13) T3,.row (.t 0) true T30 30]
abbrev qcu:List (DEx×List It):=[(.exit 8,[.v (.t 1) T3,.fn (.t 4) 60 [] [],.v (.t 12) T3,.v (.t 13) T3,.row (.t 0) true T30 30])]
noncomputable def qhC(n:Nat)(rec:qc qbI→Option (qk qcu))(s:qc qbI):Option (qk qcu):=(qo tab (qj n) (qhh n) (subC [true,true,true,true,true,true,true,true,true,false,false,false,false,true,false,false,false] (qa Try.f113)) 5 (mkS qbI 178 s)).run (Lp.leaf 178 qbI qcu rec)
noncomputable def qem(n:Nat):Lp:=⟨178,qbI,qcu,qh n (qhC n)⟩
theorem qni(n:Nat):qe (qj n).c (subC [true,true,true,true,true,true,true,true,true,false,false,false,false,true,false,false,false] (qa Try.f113)) 5=[]:=by kernel_rfl
theorem qmi(n:Nat)(st:St)(r:DEx×St)(h:((qem n).go st).Is r):DA Try.prog false (.loop (subC [true,true,true,true,true,true,true,true,true,false,false,false,false,true,false,false,false] (qa Try.f113))) st r:=Lp.ok (L:=qem n) (B:=tab) (cs:=qj n) (lo:=qhh n) (id:=4) rfl (ql (qni n) qf) (fun _ _=>rfl) h
noncomputable def qhi(n:Nat):Nat→St→PT (DEx×St):=fun k st=>match k with
 | 3=>(qel n).go st
 | 4=>(qem n).go st
 | _=>.fail
abbrev qbJ:List It:=[.v (.t 1) T3,.fn (.t 4) 60 [] [],.v (.t 12) T3,.v (.t 13) T3,.row (.t 0) true T30 30]
abbrev qcv:List (DEx×List It):=[(.exit 4,[.v (.t 1) T3,.v (.t 13) T3,.row (.t 0) true T30 30])]
noncomputable def qhD(n:Nat)(rec:qc qbJ→Option (qk qcv))(s:qc qbJ):Option (qk qcv):=(qo tab (qj n) (qhi n) (subC [true,true,true,true,true,true,true,true,true,false,false,false] (qa Try.f113)) 3 (mkS qbJ 178 s)).run (Lp.leaf 178 qbJ qcv rec)
noncomputable def qen(n:Nat):Lp:=⟨178,qbJ,qcv,qh n (qhD n)⟩
theorem qnj(n:Nat):qe (qj n).c (subC [true,true,true,true,true,true,true,true,true,false,false,false] (qa Try.f113)) 3=[(3,.loop (subC [true,true,true,true,true,true,true,true,true,false,false,false,false,false,false,false] (qa Try.f113))),(4,.loop (subC [true,true,true,true,true,true,true,true,true,false,false,false,false,true,false,false,false] (qa Try.f113)))]:=by kernel_rfl
theorem qmj(n:Nat)(st:St)(r:DEx×St)(h:((qen n).go st).Is r):DA Try.prog false (.loop (subC [true,true,true,true,true,true,true,true,true,false,false,false] (qa Try.f113))) st r:=Lp.ok (L:=qen n) (B:=tab) (cs:=qj n) (lo:=qhi n) (id:=2) rfl (ql (qnj n) (all_cons (fun st r h=>qmh n st r h) (all_cons (fun st r h=>qmi n st r h) qf))) (fun _ _=>rfl) h
noncomputable def qhE(n:Nat):Nat→St→PT (DEx×St):=fun k st=>match k with
 | 0=>(qej n).go st
 | 1=>(qek n).go st
 | 2=>(qen n).go st
 | _=>.fail
theorem qnz(n:Nat):qe (qj n).c (qa Try.f113) 0=[(0,.loop (subC [true,true,true,false,false,false] (qa Try.f113))),(1,.loop (subC [true,true,true,true,false,false,false] (qa Try.f113))),(2,.loop (subC [true,true,true,true,true,true,true,true,true,false,false,false] (qa Try.f113)))]:=by kernel_rfl
theorem qnA:Try.f113.body=some (qa Try.f113):=by kernel_rfl
abbrev qeo:List It:=[.v (.t 1) T3,.v (.t 2) T3,.v (.t 3) T3,.fn (.t 4) 60 [] [],.row (.t 0) true T30 30]
abbrev qea:List (List It):=[[.v (.t 0) T3,.v (.t 1) T4,.row (.t 2) true T30 30]]
noncomputable def qhN(n:Nat)(x:qc qeo):Option (qC qea):=runW tab (qj n) (qhE n) (qa Try.f113) qeo 5 178 [.tmp 10,.tmp 11] qea x
noncomputable def qhO(n:Nat):Cw Try.prog:=⟨113,5,qeo,2,qea,qhN n,fun _ _ h=>qbT (B:=tab) (cs:=qj n) (lo:=qhE n) (rs:=[.tmp 10,.tmp 11]) Try.func113 (by kernel_rfl) qnA (by kernel_rfl) (by decide) (ql (qnz n) (all_cons (fun st r h=>qmf n st r h) (all_cons (fun st r h=>qmg n st r h) (all_cons (fun st r h=>qmj n st r h) qf)))) h⟩
noncomputable def qR(n:Nat):CL Try.prog:=⟨[qc7 n,qzY n],[qzq n],0,fun _=>false⟩
noncomputable def qgn(n:Nat):Nat→St→PT (DEx×St):=fun _ _=>.fail
abbrev qbo:List It:=[.v (.t 1) T3,.v (.t 8) T3,.v (.t 10) T100,.v (.t 11) T3,.row (.t 0) true T30 30,.obj (.t 9) false 136 1,.v (.c 1 0) T136]
abbrev qcb:List (DEx×List It):=[(.exit 0,[.row (.t 0) true T30 30])]
noncomputable def qgK(n:Nat)(rec:qc qbo→Option (qk qcb))(s:qc qbo):Option (qk qcb):=(qo tab (qR n) (qgn n) (subC [true,true,false,true,true,true,false,false] (qa Try.f108)) 1 (mkS qbo 67 s)).run (Lp.leaf 67 qbo qcb rec)
noncomputable def qdt(n:Nat):Lp:=⟨67,qbo,qcb,qh n (qgK n)⟩
theorem qlG(n:Nat):qe (qR n).c (subC [true,true,false,true,true,true,false,false] (qa Try.f108)) 1=[]:=by kernel_rfl
theorem qkI(n:Nat)(st:St)(r:DEx×St)(h:((qdt n).go st).Is r):DA Try.prog false (.loop (subC [true,true,false,true,true,true,false,false] (qa Try.f108))) st r:=Lp.ok (L:=qdt n) (B:=tab) (cs:=qR n) (lo:=qgn n) (id:=0) rfl (ql (qlG n) qf) (fun _ _=>rfl) h
noncomputable def qgL(n:Nat):Nat→St→PT (DEx×St):=fun k st=>match k with
 | 0=>(qdt n).go st
 | _=>.fail
theorem qmk(n:Nat):qe (qR n).c (qa Try.f108) 0=[(0,.loop (subC [true,true,false,true,true,true,false,false] (qa Try.f108)))]:=by kernel_rfl
theorem qml:Try.f108.body=some (qa Try.f108):=by kernel_rfl
abbrev qdu:List It:=[.v (.t 1) T3,.v (.t 2) T3,.fn (.t 3) 60 [] [],.row (.t 0) true T30 30]
abbrev qdf:List (List It):=[[.row (.t 0) true T30 30]]
noncomputable def qgY(n:Nat)(x:qc qdu):Option (qC qdf):=runW tab (qR n) (qgL n) (qa Try.f108) qdu 4 67 [] qdf x
noncomputable def qgZ(n:Nat):Cw Try.prog:=⟨108,4,qdu,0,qdf,qgY n,fun _ _ h=>qbT (B:=tab) (cs:=qR n) (lo:=qgL n) (rs:=[]) Try.func108 (by kernel_rfl) qml (by kernel_rfl) (by decide) (ql (qmk n) (all_cons (fun st r h=>qkI n st r h) qf)) h⟩
end Go.Proofs.Ytcjgodgpaokbnaa
