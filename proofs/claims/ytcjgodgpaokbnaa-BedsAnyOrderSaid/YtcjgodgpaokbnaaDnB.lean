/- Printed: what functions of the program compute. -/
import Derived.Test.YtcjgodgpaokbnaaDnA
set_option linter.constructorNameAsVariable false
set_option linter.unusedSimpArgs false
set_option linter.unusedVariables false
set_option linter.unusedSectionVars false
namespace Go.Proofs.Ytcjgodgpaokbnaa
open Go Go.Proofs Go.RowKit
set_option maxRecDepth 20000
noncomputable def qtx(n:Nat):CL Try.prog:=⟨[],[],0,fun _=>false⟩
noncomputable def qx5(n:Nat):Nat→St→PT (DEx×St):=fun _ _=>.fail
theorem qFd(n:Nat):qe (qtx n).c (qa Try.f98) 0=[]:=by kernel_rfl
theorem qFe:Try.f98.body=some (qa Try.f98):=by kernel_rfl
abbrev qus:List Ar:=[.d T3]
abbrev qut:List Ty:=[T4]
noncomputable def qzl(n:Nat)(x:qR qus):Option (qu qut):=(qq tab (qtx n) (qx5 n) (qa Try.f98) 0 (qbc qus 6 x)).run (qcR tab [.tmp 2] qut)
noncomputable def qzm(n:Nat):Ct Try.prog:=⟨98,qus,.ts qut,qzl n,fun _ _ h=>qcV (B:=tab) (cs:=qtx n) (lo:=qx5 n) (rs:=[.tmp 2]) Try.func98 (by kernel_rfl) qFe (by kernel_rfl) (by decide) (ql (qFd n) qf) h⟩
noncomputable def quu(n:Nat):CL Try.prog:=⟨[qzm n],[],0,fun _=>false⟩
noncomputable def qzn(n:Nat):Nat→St→PT (DEx×St):=fun _ _=>.fail
theorem qFS(n:Nat):qe (quu n).c (qa Try.f84) 0=[]:=by kernel_rfl
theorem qFT:Try.f84.body=some (qa Try.f84):=by kernel_rfl
abbrev qvx:List Ar:=[.d T3,.d T3]
abbrev qvy:List Ty:=[T4]
noncomputable def qAd(n:Nat)(x:qR qvx):Option (qu qvy):=(qq tab (quu n) (qzn n) (qa Try.f84) 0 (qbc qvx 17 x)).run (qcR tab [.tmp 4] qvy)
noncomputable def qAe(n:Nat):Ct Try.prog:=⟨84,qvx,.ts qvy,qAd n,fun _ _ h=>qcV (B:=tab) (cs:=quu n) (lo:=qzn n) (rs:=[.tmp 4]) Try.func84 (by kernel_rfl) qFT (by kernel_rfl) (by decide) (ql (qFS n) qf) h⟩
noncomputable def qrW(n:Nat):CL Try.prog:=⟨[qzm n],[],0,fun _=>false⟩
noncomputable def qwc(n:Nat):Nat→St→PT (DEx×St):=fun _ _=>.fail
theorem qDC(n:Nat):qe (qrW n).c (qa Try.f77) 0=[]:=by kernel_rfl
theorem qDD:Try.f77.body=some (qa Try.f77):=by kernel_rfl
abbrev qsQ:List Ar:=[.d T3,.d T3]
abbrev qsR:List Ty:=[T3]
noncomputable def qxc(n:Nat)(x:qR qsQ):Option (qu qsR):=(qq tab (qrW n) (qwc n) (qa Try.f77) 0 (qbc qsQ 20 x)).run (qcR tab [.tmp 4] qsR)
noncomputable def qsS(n:Nat):Ct Try.prog:=⟨77,qsQ,.ts qsR,qxc n,fun _ _ h=>qcV (B:=tab) (cs:=qrW n) (lo:=qwc n) (rs:=[.tmp 4]) Try.func77 (by kernel_rfl) qDD (by kernel_rfl) (by decide) (ql (qDC n) qf) h⟩
noncomputable def qpQ(n:Nat):CL Try.prog:=⟨[],[],0,fun _=>false⟩
noncomputable def qBN(n:Nat):Nat→St→PT (DEx×St):=fun _ _=>.fail
abbrev qrX:List It:=[.v (.t 6) T25,.v (.t 7) T3,.v (.t 8) T3,.row (.t 3) false T3 3]
abbrev quv:List (DEx×List It):=[(.exit 0,[.row (.t 3) false T3 3])]
noncomputable def qCx(n:Nat)(rec:qc qrX→Option (qk quv))(s:qc qrX):Option (qk quv):=(qq tab (qpQ n) (qBN n) (subC [true,true,false,true,false,false] (qa Try.f32)) 1 (mkS qrX 19 s)).run (Lp.leaf 19 qrX quv rec)
noncomputable def qx6(n:Nat):Lp:=⟨19,qrX,quv,qj n (qCx n)⟩
theorem qHY(n:Nat):qe (qpQ n).c (subC [true,true,false,true,false,false] (qa Try.f32)) 1=[]:=by kernel_rfl
theorem qFf(n:Nat)(st:St)(r:DEx×St)(h:((qx6 n).go st).Is r):DA Try.prog false (.loop (subC [true,true,false,true,false,false] (qa Try.f32))) st r:=Lp.ok (L:=qx6 n) (B:=tab) (cs:=qpQ n) (lo:=qBN n) (id:=0) rfl (ql (qHY n) qf) (fun _ _=>rfl) h
noncomputable def qCy(n:Nat):Nat→St→PT (DEx×St):=fun k st=>match k with
 | 0=>(qx6 n).go st
 | _=>.fail
theorem qIL(n:Nat):qe (qpQ n).c (qa Try.f32) 0=[(0,.loop (subC [true,true,false,true,false,false] (qa Try.f32)))]:=by kernel_rfl
theorem qIM:Try.f32.body=some (qa Try.f32):=by kernel_rfl
abbrev qx7:List It:=[.v (.t 0) T25]
abbrev qwO:List (List It):=[[.row (.t 0) false T3 3]]
noncomputable def qD6(n:Nat)(x:qc qx7):Option (qI qwO):=runW tab (qpQ n) (qCy n) (qa Try.f32) qx7 1 19 [.tmp 2] qwO x
noncomputable def qD7(n:Nat):Cw Try.prog:=⟨32,1,qx7,1,qwO,qD6 n,fun _ _ h=>qb2 (B:=tab) (cs:=qpQ n) (lo:=qCy n) (rs:=[.tmp 2]) Try.func32 (by kernel_rfl) qIM (by kernel_rfl) (by decide) (ql (qIL n) (all_cons (fun st r h=>qFf n st r h) qf)) h⟩
noncomputable def q8(n:Nat):CL Try.prog:=⟨[qAe n],[],0,fun _=>false⟩
noncomputable def qlP(n:Nat):Nat→St→PT (DEx×St):=fun _ _=>.fail
abbrev qdV:List It:=[.v (.t 1) T3,.v (.t 2) T3,.v (.t 6) T3,.v (.t 7) T3,.row (.t 0) true T3 3]
abbrev qfI:List (DEx×List It):=[(.exit 2,[.v (.t 1) T3,.v (.t 2) T3,.v (.t 6) T3,.row (.t 0) true T3 3])]
noncomputable def qms(n:Nat)(rec:qc qdV→Option (qk qfI))(s:qc qdV):Option (qk qfI):=(qq tab (q8 n) (qlP n) (subC [true,false,false,true,false,false,true,false,false] (qa Try.f78)) 2 (mkS qdV 49 s)).run (Lp.leaf 49 qdV qfI rec)
noncomputable def qiA(n:Nat):Lp:=⟨49,qdV,qfI,qj n (qms n)⟩
theorem qsz(n:Nat):qe (q8 n).c (subC [true,false,false,true,false,false,true,false,false] (qa Try.f78)) 2=[]:=by kernel_rfl
theorem qrf(n:Nat)(st:St)(r:DEx×St)(h:((qiA n).go st).Is r):DA Try.prog false (.loop (subC [true,false,false,true,false,false,true,false,false] (qa Try.f78))) st r:=Lp.ok (L:=qiA n) (B:=tab) (cs:=q8 n) (lo:=qlP n) (id:=1) rfl (ql (qsz n) qf) (fun _ _=>rfl) h
noncomputable def qlQ(n:Nat):Nat→St→PT (DEx×St):=fun k st=>match k with
 | 1=>(qiA n).go st
 | _=>.fail
abbrev qdW:List It:=[.v (.t 1) T3,.v (.t 2) T3,.v (.t 6) T3,.row (.t 0) true T3 3]
abbrev qfJ:List (DEx×List It):=[(.exit 0,[.row (.t 0) true T3 3])]
noncomputable def qmt(n:Nat)(rec:qc qdW→Option (qk qfJ))(s:qc qdW):Option (qk qfJ):=(qq tab (q8 n) (qlQ n) (subC [true,false,false] (qa Try.f78)) 1 (mkS qdW 49 s)).run (Lp.leaf 49 qdW qfJ rec)
noncomputable def qiB(n:Nat):Lp:=⟨49,qdW,qfJ,qj n (qmt n)⟩
theorem qsA(n:Nat):qe (q8 n).c (subC [true,false,false] (qa Try.f78)) 1=[(1,.loop (subC [true,false,false,true,false,false,true,false,false] (qa Try.f78)))]:=by kernel_rfl
theorem qrg(n:Nat)(st:St)(r:DEx×St)(h:((qiB n).go st).Is r):DA Try.prog false (.loop (subC [true,false,false] (qa Try.f78))) st r:=Lp.ok (L:=qiB n) (B:=tab) (cs:=q8 n) (lo:=qlQ n) (id:=0) rfl (ql (qsA n) (all_cons (fun st r h=>qrf n st r h) qf)) (fun _ _=>rfl) h
noncomputable def qmu(n:Nat):Nat→St→PT (DEx×St):=fun k st=>match k with
 | 0=>(qiB n).go st
 | _=>.fail
theorem qsT(n:Nat):qe (q8 n).c (qa Try.f78) 0=[(0,.loop (subC [true,false,false] (qa Try.f78)))]:=by kernel_rfl
theorem qsU:Try.f78.body=some (qa Try.f78):=by kernel_rfl
abbrev qiC:List It:=[.v (.t 1) T3,.v (.t 2) T3,.row (.t 0) true T3 3]
abbrev qia:List (List It):=[[.row (.t 0) true T3 3]]
noncomputable def qmS(n:Nat)(x:qc qiC):Option (qI qia):=runW tab (q8 n) (qmu n) (qa Try.f78) qiC 3 49 [] qia x
noncomputable def qsV(n:Nat):Cw Try.prog:=⟨78,3,qiC,0,qia,qmS n,fun _ _ h=>qb2 (B:=tab) (cs:=q8 n) (lo:=qmu n) (rs:=[]) Try.func78 (by kernel_rfl) qsU (by kernel_rfl) (by decide) (ql (qsT n) (all_cons (fun st r h=>qrg n st r h) qf)) h⟩
noncomputable def qrY(n:Nat):CL Try.prog:=⟨[],[],0,fun _=>false⟩
noncomputable def qwd(n:Nat):Nat→St→PT (DEx×St):=fun _ _=>.fail
theorem qDE(n:Nat):qe (qrY n).c (qa Try.f88) 0=[]:=by kernel_rfl
theorem qDF:Try.f88.body=some (qa Try.f88):=by kernel_rfl
abbrev qsW:List Ar:=[.d T129]
abbrev qsX:List Ty:=[T3]
noncomputable def qxd(n:Nat)(x:qR qsW):Option (qu qsX):=(qq tab (qrY n) (qwd n) (qa Try.f88) 0 (qbc qsW 25 x)).run (qcR tab [.tmp 2] qsX)
noncomputable def qDG(n:Nat):Ct Try.prog:=⟨88,qsW,.ts qsX,qxd n,fun _ _ h=>qcV (B:=tab) (cs:=qrY n) (lo:=qwd n) (rs:=[.tmp 2]) Try.func88 (by kernel_rfl) qDF (by kernel_rfl) (by decide) (ql (qDE n) qf) h⟩
noncomputable def qty(n:Nat):CL Try.prog:=⟨[qDG n],[],0,fun _=>false⟩
noncomputable def qx8(n:Nat):Nat→St→PT (DEx×St):=fun _ _=>.fail
theorem qFg(n:Nat):qe (qty n).c (qa Try.f55) 0=[]:=by kernel_rfl
theorem qFh:Try.f55.body=some (qa Try.f55):=by kernel_rfl
abbrev quw:List Ar:=[.d T100]
abbrev qux:List Ty:=[T3]
noncomputable def qzo(n:Nat)(x:qR quw):Option (qu qux):=(qq tab (qty n) (qx8 n) (qa Try.f55) 0 (qbc quw 8 x)).run (qcR tab [.tmp 2] qux)
noncomputable def qrC(n:Nat):Ct Try.prog:=⟨55,quw,.ts qux,qzo n,fun _ _ h=>qcV (B:=tab) (cs:=qty n) (lo:=qx8 n) (rs:=[.tmp 2]) Try.func55 (by kernel_rfl) qFh (by kernel_rfl) (by decide) (ql (qFg n) qf) h⟩
noncomputable def quy(n:Nat):CL Try.prog:=⟨[],[],0,fun _=>false⟩
noncomputable def qzp(n:Nat):Nat→St→PT (DEx×St):=fun _ _=>.fail
theorem qFU(n:Nat):qe (quy n).c (qa Try.f36) 0=[]:=by kernel_rfl
theorem qFV:Try.f36.body=some (qa Try.f36):=by kernel_rfl
abbrev qvz:List Ar:=[.d T3,.d T3,.d T3]
abbrev qvA:List Ty:=[T4]
noncomputable def qAf(n:Nat)(x:qR qvz):Option (qu qvA):=(qq tab (quy n) (qzp n) (qa Try.f36) 0 (qbc qvz 15 x)).run (qcR tab [.tmp 6] qvA)
noncomputable def qnr(n:Nat):Ct Try.prog:=⟨36,qvz,.ts qvA,qAf n,fun _ _ h=>qcV (B:=tab) (cs:=quy n) (lo:=qzp n) (rs:=[.tmp 6]) Try.func36 (by kernel_rfl) qFV (by kernel_rfl) (by decide) (ql (qFU n) qf) h⟩
noncomputable def qsY(n:Nat):CL Try.prog:=⟨[qnr n],[],0,fun _=>false⟩
noncomputable def qxe(n:Nat):Nat→St→PT (DEx×St):=fun _ _=>.fail
theorem qEt(n:Nat):qe (qsY n).c (qa Try.f50) 0=[]:=by kernel_rfl
theorem qEu:Try.f50.body=some (qa Try.f50):=by kernel_rfl
abbrev qtz:List Ar:=[.d T69,.d T3]
abbrev qtA:List Ty:=[T4]
noncomputable def qx9(n:Nat)(x:qR qtz):Option (qu qtA):=(qq tab (qsY n) (qxe n) (qa Try.f50) 0 (qbc qtz 12 x)).run (qcR tab [.tmp 4] qtA)
noncomputable def qya(n:Nat):Ct Try.prog:=⟨50,qtz,.ts qtA,qx9 n,fun _ _ h=>qcV (B:=tab) (cs:=qsY n) (lo:=qxe n) (rs:=[.tmp 4]) Try.func50 (by kernel_rfl) qEu (by kernel_rfl) (by decide) (ql (qEt n) qf) h⟩
noncomputable def qrh(n:Nat):CL Try.prog:=⟨[qnr n],[],0,fun _=>false⟩
noncomputable def qu7(n:Nat):Nat→St→PT (DEx×St):=fun _ _=>.fail
theorem qCz(n:Nat):qe (qrh n).c (qa Try.f51) 0=[]:=by kernel_rfl
theorem qCA:Try.f51.body=some (qa Try.f51):=by kernel_rfl
abbrev qrZ:List Ar:=[.d T69,.d T3]
abbrev qr0:List Ty:=[T4]
noncomputable def qwe(n:Nat)(x:qR qrZ):Option (qu qr0):=(qq tab (qrh n) (qu7 n) (qa Try.f51) 0 (qbc qrZ 11 x)).run (qcR tab [.tmp 4] qr0)
noncomputable def qwf(n:Nat):Ct Try.prog:=⟨51,qrZ,.ts qr0,qwe n,fun _ _ h=>qcV (B:=tab) (cs:=qrh n) (lo:=qu7 n) (rs:=[.tmp 4]) Try.func51 (by kernel_rfl) qCA (by kernel_rfl) (by decide) (ql (qCz n) qf) h⟩
noncomputable def qi6(n:Nat):CL Try.prog:=⟨[qnr n,qya n,qwf n],[],0,fun _=>false⟩
noncomputable def quz(n:Nat):Nat→St→PT (DEx×St):=fun _ _=>.fail
abbrev qkO:List It:=[.v (.t 5) T3,.v (.t 8) T28,.v (.t 9) T3,.v (.t 10) T3,.obj (.t 2) false 69 2,.v (.c 0 0) T69]
abbrev qn8:List (DEx×List It):=[(.exit 0,[]),(.ret,[.v (.t 4) T4])]
noncomputable def qu8(n:Nat)(rec:qc qkO→Option (qk qn8))(s:qc qkO):Option (qk qn8):=(qq tab (qi6 n) (quz n) (subC [true,true,false,true,false,false] (qa Try.f105)) 1 (mkS qkO 43 s)).run (Lp.leaf 43 qkO qn8 rec)
noncomputable def qri(n:Nat):Lp:=⟨43,qkO,qn8,qj n (qu8 n)⟩
theorem qB2(n:Nat):qe (qi6 n).c (subC [true,true,false,true,false,false] (qa Try.f105)) 1=[]:=by kernel_rfl
theorem qzJ(n:Nat)(st:St)(r:DEx×St)(h:((qri n).go st).Is r):DA Try.prog false (.loop (subC [true,true,false,true,false,false] (qa Try.f105))) st r:=Lp.ok (L:=qri n) (B:=tab) (cs:=qi6 n) (lo:=quz n) (id:=0) rfl (ql (qB2 n) qf) (fun _ _=>rfl) h
noncomputable def qu9(n:Nat):Nat→St→PT (DEx×St):=fun k st=>match k with
 | 0=>(qri n).go st
 | _=>.fail
theorem qCB(n:Nat):qe (qi6 n).c (qa Try.f105) 0=[(0,.loop (subC [true,true,false,true,false,false] (qa Try.f105)))]:=by kernel_rfl
theorem qCC:Try.f105.body=some (qa Try.f105):=by kernel_rfl
abbrev qr1:List Ar:=[.d T69,.d T28]
abbrev qr2:List Ty:=[T4]
noncomputable def qwg(n:Nat)(x:qR qr1):Option (qu qr2):=(qq tab (qi6 n) (qu9 n) (qa Try.f105) 0 (qbc qr1 43 x)).run (qcR tab [.tmp 4] qr2)
noncomputable def qCD(n:Nat):Ct Try.prog:=⟨105,qr1,.ts qr2,qwg n,fun _ _ h=>qcV (B:=tab) (cs:=qi6 n) (lo:=qu9 n) (rs:=[.tmp 4]) Try.func105 (by kernel_rfl) qCC (by kernel_rfl) (by decide) (ql (qCB n) (all_cons (fun st r h=>qzJ n st r h) qf)) h⟩
noncomputable def qpR(n:Nat):CL Try.prog:=⟨[qnr n,qCD n],[],0,fun _=>false⟩
noncomputable def qt1(n:Nat):Nat→St→PT (DEx×St):=fun _ _=>.fail
theorem qBo(n:Nat):qe (qpR n).c (qa Try.f92) 0=[]:=by kernel_rfl
theorem qBp:Try.f92.body=some (qa Try.f92):=by kernel_rfl
abbrev qqH:List Ar:=[.d T69,.d T30]
abbrev qqI:List Ty:=[T4]
noncomputable def quA(n:Nat)(x:qR qqH):Option (qu qqI):=(qq tab (qpR n) (qt1 n) (qa Try.f92) 0 (qbc qqH 49 x)).run (qcR tab [.tmp 4] qqI)
noncomputable def qBq(n:Nat):Ct Try.prog:=⟨92,qqH,.ts qqI,quA n,fun _ _ h=>qcV (B:=tab) (cs:=qpR n) (lo:=qt1 n) (rs:=[.tmp 4]) Try.func92 (by kernel_rfl) qBp (by kernel_rfl) (by decide) (ql (qBo n) qf) h⟩
noncomputable def qoF(n:Nat):CL Try.prog:=⟨[],[],0,fun _=>false⟩
noncomputable def qAg(n:Nat):Nat→St→PT (DEx×St):=fun _ _=>.fail
abbrev qq4:List It:=[.v (.t 3) T3,.v (.t 6) T32,.v (.t 7) T3,.v (.t 8) T3]
abbrev qtq:List (DEx×List It):=[(.exit 0,[.v (.t 3) T3]),(.ret,[.v (.t 2) T3])]
noncomputable def qBO(n:Nat)(rec:qc qq4→Option (qk qtq))(s:qc qq4):Option (qk qtq):=(qq tab (qoF n) (qAg n) (subC [true,true,false,true,false,false] (qa Try.f76)) 1 (mkS qq4 18 s)).run (Lp.leaf 18 qq4 qtq rec)
noncomputable def qwP(n:Nat):Lp:=⟨18,qq4,qtq,qj n (qBO n)⟩
theorem qGX(n:Nat):qe (qoF n).c (subC [true,true,false,true,false,false] (qa Try.f76)) 1=[]:=by kernel_rfl
theorem qEv(n:Nat)(st:St)(r:DEx×St)(h:((qwP n).go st).Is r):DA Try.prog false (.loop (subC [true,true,false,true,false,false] (qa Try.f76))) st r:=Lp.ok (L:=qwP n) (B:=tab) (cs:=qoF n) (lo:=qAg n) (id:=0) rfl (ql (qGX n) qf) (fun _ _=>rfl) h
noncomputable def qBP(n:Nat):Nat→St→PT (DEx×St):=fun k st=>match k with
 | 0=>(qwP n).go st
 | _=>.fail
theorem qHZ(n:Nat):qe (qoF n).c (qa Try.f76) 0=[(0,.loop (subC [true,true,false,true,false,false] (qa Try.f76)))]:=by kernel_rfl
theorem qH0:Try.f76.body=some (qa Try.f76):=by kernel_rfl
abbrev qyb:List Ar:=[.d T32]
abbrev qyc:List Ty:=[T3]
noncomputable def qCE(n:Nat)(x:qR qyb):Option (qu qyc):=(qq tab (qoF n) (qBP n) (qa Try.f76) 0 (qbc qyb 18 x)).run (qcR tab [.tmp 2] qyc)
noncomputable def qyd(n:Nat):Ct Try.prog:=⟨76,qyb,.ts qyc,qCE n,fun _ _ h=>qcV (B:=tab) (cs:=qoF n) (lo:=qBP n) (rs:=[.tmp 2]) Try.func76 (by kernel_rfl) qH0 (by kernel_rfl) (by decide) (ql (qHZ n) (all_cons (fun st r h=>qEv n st r h) qf)) h⟩
noncomputable def qoG(n:Nat):CL Try.prog:=⟨[],[],0,fun _=>false⟩
noncomputable def qAh(n:Nat):Nat→St→PT (DEx×St):=fun _ _=>.fail
abbrev qq5:List It:=[.v (.t 0) T25,.v (.t 5) T25,.v (.t 6) T3,.v (.t 7) T3]
abbrev qtr:List (DEx×List It):=[(.exit 0,[]),(.ret,[.v (.t 2) T4])]
noncomputable def qBQ(n:Nat)(rec:qc qq5→Option (qk qtr))(s:qc qq5):Option (qk qtr):=(qq tab (qoG n) (qAh n) (subC [true,false,true,false,false] (qa Try.f40)) 1 (mkS qq5 37 s)).run (Lp.leaf 37 qq5 qtr rec)
noncomputable def qwQ(n:Nat):Lp:=⟨37,qq5,qtr,qj n (qBQ n)⟩
theorem qGY(n:Nat):qe (qoG n).c (subC [true,false,true,false,false] (qa Try.f40)) 1=[]:=by kernel_rfl
theorem qEw(n:Nat)(st:St)(r:DEx×St)(h:((qwQ n).go st).Is r):DA Try.prog false (.loop (subC [true,false,true,false,false] (qa Try.f40))) st r:=Lp.ok (L:=qwQ n) (B:=tab) (cs:=qoG n) (lo:=qAh n) (id:=0) rfl (ql (qGY n) qf) (fun _ _=>rfl) h
noncomputable def qBR(n:Nat):Nat→St→PT (DEx×St):=fun k st=>match k with
 | 0=>(qwQ n).go st
 | _=>.fail
theorem qH1(n:Nat):qe (qoG n).c (qa Try.f40) 0=[(0,.loop (subC [true,false,true,false,false] (qa Try.f40)))]:=by kernel_rfl
theorem qH2:Try.f40.body=some (qa Try.f40):=by kernel_rfl
abbrev qye:List Ar:=[.d T25]
abbrev qyf:List Ty:=[T4]
noncomputable def qCF(n:Nat)(x:qR qye):Option (qu qyf):=(qq tab (qoG n) (qBR n) (qa Try.f40) 0 (qbc qye 37 x)).run (qcR tab [.tmp 2] qyf)
noncomputable def qCG(n:Nat):Ct Try.prog:=⟨40,qye,.ts qyf,qCF n,fun _ _ h=>qcV (B:=tab) (cs:=qoG n) (lo:=qBR n) (rs:=[.tmp 2]) Try.func40 (by kernel_rfl) qH2 (by kernel_rfl) (by decide) (ql (qH1 n) (all_cons (fun st r h=>qEw n st r h) qf)) h⟩
noncomputable def qf5(n:Nat):CL Try.prog:=⟨[],[],0,fun _=>false⟩
noncomputable def qrD(n:Nat):Nat→St→PT (DEx×St):=fun _ _=>.fail
abbrev qib:List It:=[.v (.t 0) T32,.v (.t 1) T32,.v (.t 5) T3]
abbrev qj5:List (DEx×List It):=[(.exit 0,[]),(.ret,[.v (.t 4) T4])]
noncomputable def qr3(n:Nat)(rec:qc qib→Option (qk qj5))(s:qc qib):Option (qk qj5):=(qq tab (qf5 n) (qrD n) (subC [true,true,false,true,false,false] (qa Try.f14)) 1 (mkS qib 26 s)).run (Lp.leaf 26 qib qj5 rec)
noncomputable def qnH(n:Nat):Lp:=⟨26,qib,qj5,qj n (qr3 n)⟩
theorem qyg(n:Nat):qe (qf5 n).c (subC [true,true,false,true,false,false] (qa Try.f14)) 1=[]:=by kernel_rfl
theorem qwh(n:Nat)(st:St)(r:DEx×St)(h:((qnH n).go st).Is r):DA Try.prog false (.loop (subC [true,true,false,true,false,false] (qa Try.f14))) st r:=Lp.ok (L:=qnH n) (B:=tab) (cs:=qf5 n) (lo:=qrD n) (id:=0) rfl (ql (qyg n) qf) (fun _ _=>rfl) h
noncomputable def qr4(n:Nat):Nat→St→PT (DEx×St):=fun k st=>match k with
 | 0=>(qnH n).go st
 | _=>.fail
theorem qyI(n:Nat):qe (qf5 n).c (qa Try.f14) 0=[(0,.loop (subC [true,true,false,true,false,false] (qa Try.f14)))]:=by kernel_rfl
theorem qyJ:Try.f14.body=some (qa Try.f14):=by kernel_rfl
abbrev qop:List Ar:=[.d T32,.d T32]
abbrev qoq:List Ty:=[T4]
noncomputable def qsG(n:Nat)(x:qR qop):Option (qu qoq):=(qq tab (qf5 n) (qr4 n) (qa Try.f14) 0 (qbc qop 26 x)).run (qcR tab [.tmp 4] qoq)
noncomputable def qsH(n:Nat):Ct Try.prog:=⟨14,qop,.ts qoq,qsG n,fun _ _ h=>qcV (B:=tab) (cs:=qf5 n) (lo:=qr4 n) (rs:=[.tmp 4]) Try.func14 (by kernel_rfl) qyJ (by kernel_rfl) (by decide) (ql (qyI n) (all_cons (fun st r h=>qwh n st r h) qf)) h⟩
noncomputable def qeB(n:Nat):CL Try.prog:=⟨[qup n],[],0,fun _=>false⟩
noncomputable def qpo(n:Nat):Nat→St→PT (DEx×St):=fun _ _=>.fail
abbrev qf6:List It:=[.v (.t 0) T25,.v (.t 1) T25,.v (.t 5) T3]
abbrev qiD:List (DEx×List It):=[(.exit 0,[]),(.ret,[.v (.t 4) T4])]
noncomputable def qpS(n:Nat)(rec:qc qf6→Option (qk qiD))(s:qc qf6):Option (qk qiD):=(qq tab (qeB n) (qpo n) (subC [true,true,false,true,false,false] (qa Try.f23)) 1 (mkS qf6 27 s)).run (Lp.leaf 27 qf6 qiD rec)
noncomputable def qk0(n:Nat):Lp:=⟨27,qf6,qiD,qj n (qpS n)⟩
theorem qvB(n:Nat):qe (qeB n).c (subC [true,true,false,true,false,false] (qa Try.f23)) 1=[]:=by kernel_rfl
theorem qua(n:Nat)(st:St)(r:DEx×St)(h:((qk0 n).go st).Is r):DA Try.prog false (.loop (subC [true,true,false,true,false,false] (qa Try.f23))) st r:=Lp.ok (L:=qk0 n) (B:=tab) (cs:=qeB n) (lo:=qpo n) (id:=0) rfl (ql (qvB n) qf) (fun _ _=>rfl) h
noncomputable def qpT(n:Nat):Nat→St→PT (DEx×St):=fun k st=>match k with
 | 0=>(qk0 n).go st
 | _=>.fail
theorem qwi(n:Nat):qe (qeB n).c (qa Try.f23) 0=[(0,.loop (subC [true,true,false,true,false,false] (qa Try.f23)))]:=by kernel_rfl
theorem qwj:Try.f23.body=some (qa Try.f23):=by kernel_rfl
abbrev qlR:List Ar:=[.d T25,.d T25]
abbrev qlS:List Ty:=[T4]
noncomputable def qqm(n:Nat)(x:qR qlR):Option (qu qlS):=(qq tab (qeB n) (qpT n) (qa Try.f23) 0 (qbc qlR 27 x)).run (qcR tab [.tmp 4] qlS)
noncomputable def qwk(n:Nat):Ct Try.prog:=⟨23,qlR,.ts qlS,qqm n,fun _ _ h=>qcV (B:=tab) (cs:=qeB n) (lo:=qpT n) (rs:=[.tmp 4]) Try.func23 (by kernel_rfl) qwj (by kernel_rfl) (by decide) (ql (qwi n) (all_cons (fun st r h=>qua n st r h) qf)) h⟩
noncomputable def qi7(n:Nat):CL Try.prog:=⟨[],[],0,fun _=>false⟩
noncomputable def quB(n:Nat):Nat→St→PT (DEx×St):=fun _ _=>.fail
abbrev qkP:List It:=[.v (.t 1) T25,.v (.t 5) T3,.obj (.t 2) false 24 2,.v (.c 0 0) T24]
abbrev qn9:List (DEx×List It):=[(.exit 0,[.v (.t 1) T25,.obj (.t 2) false 24 2,.v (.c 0 0) T24]),(.ret,[.v (.t 4) T4])]
noncomputable def qva(n:Nat)(rec:qc qkP→Option (qk qn9))(s:qc qkP):Option (qk qn9):=(qq tab (qi7 n) (quB n) (subC [true,false,true,false,false] (qa Try.f24)) 1 (mkS qkP 38 s)).run (Lp.leaf 38 qkP qn9 rec)
noncomputable def qrj(n:Nat):Lp:=⟨38,qkP,qn9,qj n (qva n)⟩
theorem qB3(n:Nat):qe (qi7 n).c (subC [true,false,true,false,false] (qa Try.f24)) 1=[]:=by kernel_rfl
theorem qzK(n:Nat)(st:St)(r:DEx×St)(h:((qrj n).go st).Is r):DA Try.prog false (.loop (subC [true,false,true,false,false] (qa Try.f24))) st r:=Lp.ok (L:=qrj n) (B:=tab) (cs:=qi7 n) (lo:=quB n) (id:=0) rfl (ql (qB3 n) qf) (fun _ _=>rfl) h
noncomputable def qvb(n:Nat):Nat→St→PT (DEx×St):=fun k st=>match k with
 | 0=>(qrj n).go st
 | _=>.fail
theorem qCH(n:Nat):qe (qi7 n).c (qa Try.f24) 0=[(0,.loop (subC [true,false,true,false,false] (qa Try.f24)))]:=by kernel_rfl
theorem qCI:Try.f24.body=some (qa Try.f24):=by kernel_rfl
abbrev qr5:List Ar:=[.d T24,.d T25]
abbrev qr6:List Ty:=[T4]
noncomputable def qwl(n:Nat)(x:qR qr5):Option (qu qr6):=(qq tab (qi7 n) (qvb n) (qa Try.f24) 0 (qbc qr5 38 x)).run (qcR tab [.tmp 4] qr6)
noncomputable def qCJ(n:Nat):Ct Try.prog:=⟨24,qr5,.ts qr6,qwl n,fun _ _ h=>qcV (B:=tab) (cs:=qi7 n) (lo:=qvb n) (rs:=[.tmp 4]) Try.func24 (by kernel_rfl) qCI (by kernel_rfl) (by decide) (ql (qCH n) (all_cons (fun st r h=>qzK n st r h) qf)) h⟩
noncomputable def qpU(n:Nat):CL Try.prog:=⟨[qCJ n,qBn n],[],0,fun _=>false⟩
noncomputable def qt2(n:Nat):Nat→St→PT (DEx×St):=fun _ _=>.fail
theorem qBr(n:Nat):qe (qpU n).c (qa Try.f9) 0=[]:=by kernel_rfl
theorem qBs:Try.f9.body=some (qa Try.f9):=by kernel_rfl
abbrev qqJ:List Ar:=[.d T24,.d T25]
abbrev qqK:List Ty:=[T4]
noncomputable def quC(n:Nat)(x:qR qqJ):Option (qu qqK):=(qq tab (qpU n) (qt2 n) (qa Try.f9) 0 (qbc qqJ 20 x)).run (qcR tab [.tmp 4] qqK)
noncomputable def qBt(n:Nat):Ct Try.prog:=⟨9,qqJ,.ts qqK,quC n,fun _ _ h=>qcV (B:=tab) (cs:=qpU n) (lo:=qt2 n) (rs:=[.tmp 4]) Try.func9 (by kernel_rfl) qBs (by kernel_rfl) (by decide) (ql (qBr n) qf) h⟩
noncomputable def qor(n:Nat):CL Try.prog:=⟨[],[],0,fun _=>false⟩
noncomputable def qsI(n:Nat):Nat→St→PT (DEx×St):=fun _ _=>.fail
theorem qzL(n:Nat):qe (qor n).c (qa Try.f30) 0=[]:=by kernel_rfl
theorem qzM:Try.f30.body=some (qa Try.f30):=by kernel_rfl
abbrev qo5:List Ar:=[]
abbrev qo6:List Ty:=[T24,T25]
noncomputable def qth(n:Nat)(x:qR qo5):Option (qu qo6):=(qq tab (qor n) (qsI n) (qa Try.f30) 0 (qbc qo5 27 x)).run (qcR tab [.cell 0 24,.tmp 1] qo6)
noncomputable def qzN(n:Nat):Ct Try.prog:=⟨30,qo5,.ts qo6,qth n,fun _ _ h=>qcV (B:=tab) (cs:=qor n) (lo:=qsI n) (rs:=[.cell 0 24,.tmp 1]) Try.func30 (by kernel_rfl) qzM (by kernel_rfl) (by decide) (ql (qzL n) qf) h⟩
noncomputable def qcN(n:Nat):CL Try.prog:=⟨[],[],0,fun _=>false⟩
noncomputable def qrE(n:Nat):Nat→St→PT (DEx×St):=fun _ _=>.fail
abbrev qic:List It:=[.v (.t 0) T25,.v (.t 1) T32,.v (.t 8) T3,.row (.t 6) false T30 30,.row (.t 7) false T4 4]
abbrev qj6:List (DEx×List It):=[(.exit 0,[.row (.t 6) false T30 30,.row (.t 7) false T4 4]),(.ret,[.v (.t 4) T25,.v (.t 5) T4])]
noncomputable def qr7(n:Nat)(rec:qc qic→Option (qk qj6))(s:qc qic):Option (qk qj6):=(qq tab (qcN n) (qrE n) (subC [true,true,true,false,true,false,false] (qa Try.f21)) 1 (mkS qic 61 s)).run (Lp.leaf 61 qic qj6 rec)
noncomputable def qnI(n:Nat):Lp:=⟨61,qic,qj6,qj n (qr7 n)⟩
theorem qyh(n:Nat):qe (qcN n).c (subC [true,true,true,false,true,false,false] (qa Try.f21)) 1=[]:=by kernel_rfl
theorem qwm(n:Nat)(st:St)(r:DEx×St)(h:((qnI n).go st).Is r):DA Try.prog false (.loop (subC [true,true,true,false,true,false,false] (qa Try.f21))) st r:=Lp.ok (L:=qnI n) (B:=tab) (cs:=qcN n) (lo:=qrE n) (id:=0) rfl (ql (qyh n) qf) (fun _ _=>rfl) h
noncomputable def qrF(n:Nat):Nat→St→PT (DEx×St):=fun _ _=>.fail
abbrev qid:List It:=[.v (.t 9) T3,.row (.t 6) false T30 30,.row (.t 7) false T4 4]
abbrev qj7:List (DEx×List It):=[(.exit 2,[.row (.t 6) false T30 30]),(.ret,[.v (.t 4) T25,.v (.t 5) T4])]
noncomputable def qr8(n:Nat)(rec:qc qid→Option (qk qj7))(s:qc qid):Option (qk qj7):=(qq tab (qcN n) (qrF n) (subC [true,true,true,true,false,true,false,false] (qa Try.f21)) 2 (mkS qid 61 s)).run (Lp.leaf 61 qid qj7 rec)
noncomputable def qnJ(n:Nat):Lp:=⟨61,qid,qj7,qj n (qr8 n)⟩
theorem qyi(n:Nat):qe (qcN n).c (subC [true,true,true,true,false,true,false,false] (qa Try.f21)) 2=[]:=by kernel_rfl
theorem qwn(n:Nat)(st:St)(r:DEx×St)(h:((qnJ n).go st).Is r):DA Try.prog false (.loop (subC [true,true,true,true,false,true,false,false] (qa Try.f21))) st r:=Lp.ok (L:=qnJ n) (B:=tab) (cs:=qcN n) (lo:=qrF n) (id:=1) rfl (ql (qyi n) qf) (fun _ _=>rfl) h
noncomputable def qr9(n:Nat):Nat→St→PT (DEx×St):=fun k st=>match k with
 | 0=>(qnI n).go st
 | 1=>(qnJ n).go st
 | _=>.fail
theorem qyK(n:Nat):qe (qcN n).c (qa Try.f21) 0=[(0,.loop (subC [true,true,true,false,true,false,false] (qa Try.f21))),(1,.loop (subC [true,true,true,true,false,true,false,false] (qa Try.f21)))]:=by kernel_rfl
theorem qyL:Try.f21.body=some (qa Try.f21):=by kernel_rfl
abbrev qos:List Ar:=[.d T25,.d T32]
abbrev qot:List Ty:=[T25,T4]
noncomputable def qsJ(n:Nat)(x:qR qos):Option (qu qot):=(qq tab (qcN n) (qr9 n) (qa Try.f21) 0 (qbc qos 61 x)).run (qcR tab [.tmp 4,.tmp 5] qot)
noncomputable def qyM(n:Nat):Ct Try.prog:=⟨21,qos,.ts qot,qsJ n,fun _ _ h=>qcV (B:=tab) (cs:=qcN n) (lo:=qr9 n) (rs:=[.tmp 4,.tmp 5]) Try.func21 (by kernel_rfl) qyL (by kernel_rfl) (by decide) (ql (qyK n) (all_cons (fun st r h=>qwm n st r h) (all_cons (fun st r h=>qwn n st r h) qf))) h⟩
end Go.Proofs.Ytcjgodgpaokbnaa
