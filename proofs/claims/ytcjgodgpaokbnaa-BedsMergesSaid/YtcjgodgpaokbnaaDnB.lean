/- Printed: what functions of the program compute. -/
import Derived.Test.YtcjgodgpaokbnaaDnA
set_option linter.constructorNameAsVariable false
set_option linter.unusedSimpArgs false
set_option linter.unusedVariables false
set_option linter.unusedSectionVars false
namespace Go.Proofs.Ytcjgodgpaokbnaa
open Go Go.Proofs Go.RowKit
set_option maxRecDepth 20000
noncomputable def qup(n:Nat):CL Try.prog:=⟨[],[],0,fun _=>false⟩
noncomputable def qy4(n:Nat):Nat→St→PT (DEx×St):=fun _ _=>.fail
theorem qGy(n:Nat):qe (qup n).c (qa Try.f98) 0=[]:=by kernel_rfl
theorem qGz:Try.f98.body=some (qa Try.f98):=by kernel_rfl
abbrev qvp:List Ar:=[.d T3]
abbrev qvq:List Ty:=[T4]
noncomputable def qAu(n:Nat)(x:qQ qvp):Option (qt qvq):=(qo tab (qup n) (qy4 n) (qa Try.f98) 0 (q8 qvp 6 x)).run (qcK tab [.tmp 2] qvq)
noncomputable def qAv(n:Nat):Ct Try.prog:=⟨98,qvp,.ts qvq,qAu n,fun _ _ h=>qcR (B:=tab) (cs:=qup n) (lo:=qy4 n) (rs:=[.tmp 2]) Try.func98 (by kernel_rfl) qGz (by kernel_rfl) (by decide) (ql (qGy n) qf) h⟩
noncomputable def qvr(n:Nat):CL Try.prog:=⟨[qAv n],[],0,fun _=>false⟩
noncomputable def qAw(n:Nat):Nat→St→PT (DEx×St):=fun _ _=>.fail
theorem qHj(n:Nat):qe (qvr n).c (qa Try.f84) 0=[]:=by kernel_rfl
theorem qHk:Try.f84.body=some (qa Try.f84):=by kernel_rfl
abbrev qwx:List Ar:=[.d T3,.d T3]
abbrev qwy:List Ty:=[T4]
noncomputable def qBn(n:Nat)(x:qQ qwx):Option (qt qwy):=(qo tab (qvr n) (qAw n) (qa Try.f84) 0 (q8 qwx 17 x)).run (qcK tab [.tmp 4] qwy)
noncomputable def qBo(n:Nat):Ct Try.prog:=⟨84,qwx,.ts qwy,qBn n,fun _ _ h=>qcR (B:=tab) (cs:=qvr n) (lo:=qAw n) (rs:=[.tmp 4]) Try.func84 (by kernel_rfl) qHk (by kernel_rfl) (by decide) (ql (qHj n) qf) h⟩
noncomputable def qsL(n:Nat):CL Try.prog:=⟨[qAv n],[],0,fun _=>false⟩
noncomputable def qxd(n:Nat):Nat→St→PT (DEx×St):=fun _ _=>.fail
theorem qEU(n:Nat):qe (qsL n).c (qa Try.f77) 0=[]:=by kernel_rfl
theorem qEV:Try.f77.body=some (qa Try.f77):=by kernel_rfl
abbrev qtF:List Ar:=[.d T3,.d T3]
abbrev qtG:List Ty:=[T3]
noncomputable def qx9(n:Nat)(x:qQ qtF):Option (qt qtG):=(qo tab (qsL n) (qxd n) (qa Try.f77) 0 (q8 qtF 20 x)).run (qcK tab [.tmp 4] qtG)
noncomputable def qtH(n:Nat):Ct Try.prog:=⟨77,qtF,.ts qtG,qx9 n,fun _ _ h=>qcR (B:=tab) (cs:=qsL n) (lo:=qxd n) (rs:=[.tmp 4]) Try.func77 (by kernel_rfl) qEV (by kernel_rfl) (by decide) (ql (qEU n) qf) h⟩
noncomputable def qqo(n:Nat):CL Try.prog:=⟨[],[],0,fun _=>false⟩
noncomputable def qC3(n:Nat):Nat→St→PT (DEx×St):=fun _ _=>.fail
abbrev qsM:List It:=[.v (.t 6) T25,.v (.t 7) T3,.v (.t 8) T3,.row (.t 3) false T3 3]
abbrev qvs:List (DEx×List It):=[(.exit 0,[.row (.t 3) false T3 3])]
noncomputable def qDR(n:Nat)(rec:qc qsM→Option (qk qvs))(s:qc qsM):Option (qk qvs):=(qo tab (qqo n) (qC3 n) (subC [true,true,false,true,false,false] (qa Try.f32)) 1 (mkS qsM 19 s)).run (Lp.leaf 19 qsM qvs rec)
noncomputable def qy5(n:Nat):Lp:=⟨19,qsM,qvs,qh n (qDR n)⟩
theorem qJw(n:Nat):qe (qqo n).c (subC [true,true,false,true,false,false] (qa Try.f32)) 1=[]:=by kernel_rfl
theorem qGA(n:Nat)(st:St)(r:DEx×St)(h:((qy5 n).go st).Is r):DA Try.prog false (.loop (subC [true,true,false,true,false,false] (qa Try.f32))) st r:=Lp.ok (L:=qy5 n) (B:=tab) (cs:=qqo n) (lo:=qC3 n) (id:=0) rfl (ql (qJw n) qf) (fun _ _=>rfl) h
noncomputable def qDS(n:Nat):Nat→St→PT (DEx×St):=fun k st=>match k with
 | 0=>(qy5 n).go st
 | _=>.fail
theorem qKi(n:Nat):qe (qqo n).c (qa Try.f32) 0=[(0,.loop (subC [true,true,false,true,false,false] (qa Try.f32)))]:=by kernel_rfl
theorem qKj:Try.f32.body=some (qa Try.f32):=by kernel_rfl
abbrev qy6:List It:=[.v (.t 0) T25]
abbrev qxL:List (List It):=[[.row (.t 0) false T3 3]]
noncomputable def qFp(n:Nat)(x:qc qy6):Option (qC qxL):=runW tab (qqo n) (qDS n) (qa Try.f32) qy6 1 19 [.tmp 2] qxL x
noncomputable def qFq(n:Nat):Cw Try.prog:=⟨32,1,qy6,1,qxL,qFp n,fun _ _ h=>qbT (B:=tab) (cs:=qqo n) (lo:=qDS n) (rs:=[.tmp 2]) Try.func32 (by kernel_rfl) qKj (by kernel_rfl) (by decide) (ql (qKi n) (all_cons (fun st r h=>qGA n st r h) qf)) h⟩
noncomputable def qba(n:Nat):CL Try.prog:=⟨[qBo n],[],0,fun _=>false⟩
noncomputable def ql6(n:Nat):Nat→St→PT (DEx×St):=fun _ _=>.fail
abbrev qd0:List It:=[.v (.t 1) T3,.v (.t 2) T3,.v (.t 6) T3,.v (.t 7) T3,.row (.t 0) true T3 3]
abbrev qfO:List (DEx×List It):=[(.exit 2,[.v (.t 1) T3,.v (.t 2) T3,.v (.t 6) T3,.row (.t 0) true T3 3])]
noncomputable def qmJ(n:Nat)(rec:qc qd0→Option (qk qfO))(s:qc qd0):Option (qk qfO):=(qo tab (qba n) (ql6 n) (subC [true,false,false,true,false,false,true,false,false] (qa Try.f78)) 2 (mkS qd0 49 s)).run (Lp.leaf 49 qd0 qfO rec)
noncomputable def qiK(n:Nat):Lp:=⟨49,qd0,qfO,qh n (qmJ n)⟩
theorem qtl(n:Nat):qe (qba n).c (subC [true,false,false,true,false,false,true,false,false] (qa Try.f78)) 2=[]:=by kernel_rfl
theorem qrR(n:Nat)(st:St)(r:DEx×St)(h:((qiK n).go st).Is r):DA Try.prog false (.loop (subC [true,false,false,true,false,false,true,false,false] (qa Try.f78))) st r:=Lp.ok (L:=qiK n) (B:=tab) (cs:=qba n) (lo:=ql6 n) (id:=1) rfl (ql (qtl n) qf) (fun _ _=>rfl) h
noncomputable def ql7(n:Nat):Nat→St→PT (DEx×St):=fun k st=>match k with
 | 1=>(qiK n).go st
 | _=>.fail
abbrev qd1:List It:=[.v (.t 1) T3,.v (.t 2) T3,.v (.t 6) T3,.row (.t 0) true T3 3]
abbrev qfP:List (DEx×List It):=[(.exit 0,[.row (.t 0) true T3 3])]
noncomputable def qmK(n:Nat)(rec:qc qd1→Option (qk qfP))(s:qc qd1):Option (qk qfP):=(qo tab (qba n) (ql7 n) (subC [true,false,false] (qa Try.f78)) 1 (mkS qd1 49 s)).run (Lp.leaf 49 qd1 qfP rec)
noncomputable def qiL(n:Nat):Lp:=⟨49,qd1,qfP,qh n (qmK n)⟩
theorem qtm(n:Nat):qe (qba n).c (subC [true,false,false] (qa Try.f78)) 1=[(1,.loop (subC [true,false,false,true,false,false,true,false,false] (qa Try.f78)))]:=by kernel_rfl
theorem qrS(n:Nat)(st:St)(r:DEx×St)(h:((qiL n).go st).Is r):DA Try.prog false (.loop (subC [true,false,false] (qa Try.f78))) st r:=Lp.ok (L:=qiL n) (B:=tab) (cs:=qba n) (lo:=ql7 n) (id:=0) rfl (ql (qtm n) (all_cons (fun st r h=>qrR n st r h) qf)) (fun _ _=>rfl) h
noncomputable def qmL(n:Nat):Nat→St→PT (DEx×St):=fun k st=>match k with
 | 0=>(qiL n).go st
 | _=>.fail
theorem qtI(n:Nat):qe (qba n).c (qa Try.f78) 0=[(0,.loop (subC [true,false,false] (qa Try.f78)))]:=by kernel_rfl
theorem qtJ:Try.f78.body=some (qa Try.f78):=by kernel_rfl
abbrev qiM:List It:=[.v (.t 1) T3,.v (.t 2) T3,.row (.t 0) true T3 3]
abbrev qil:List (List It):=[[.row (.t 0) true T3 3]]
noncomputable def qnc(n:Nat)(x:qc qiM):Option (qC qil):=runW tab (qba n) (qmL n) (qa Try.f78) qiM 3 49 [] qil x
noncomputable def qtK(n:Nat):Cw Try.prog:=⟨78,3,qiM,0,qil,qnc n,fun _ _ h=>qbT (B:=tab) (cs:=qba n) (lo:=qmL n) (rs:=[]) Try.func78 (by kernel_rfl) qtJ (by kernel_rfl) (by decide) (ql (qtI n) (all_cons (fun st r h=>qrS n st r h) qf)) h⟩
noncomputable def qsN(n:Nat):CL Try.prog:=⟨[],[],0,fun _=>false⟩
noncomputable def qxe(n:Nat):Nat→St→PT (DEx×St):=fun _ _=>.fail
theorem qEW(n:Nat):qe (qsN n).c (qa Try.f88) 0=[]:=by kernel_rfl
theorem qEX:Try.f88.body=some (qa Try.f88):=by kernel_rfl
abbrev qtL:List Ar:=[.d T129]
abbrev qtM:List Ty:=[T3]
noncomputable def qya(n:Nat)(x:qQ qtL):Option (qt qtM):=(qo tab (qsN n) (qxe n) (qa Try.f88) 0 (q8 qtL 25 x)).run (qcK tab [.tmp 2] qtM)
noncomputable def qEY(n:Nat):Ct Try.prog:=⟨88,qtL,.ts qtM,qya n,fun _ _ h=>qcR (B:=tab) (cs:=qsN n) (lo:=qxe n) (rs:=[.tmp 2]) Try.func88 (by kernel_rfl) qEX (by kernel_rfl) (by decide) (ql (qEW n) qf) h⟩
noncomputable def quq(n:Nat):CL Try.prog:=⟨[qEY n],[],0,fun _=>false⟩
noncomputable def qy7(n:Nat):Nat→St→PT (DEx×St):=fun _ _=>.fail
theorem qGB(n:Nat):qe (quq n).c (qa Try.f55) 0=[]:=by kernel_rfl
theorem qGC:Try.f55.body=some (qa Try.f55):=by kernel_rfl
abbrev qvt:List Ar:=[.d T100]
abbrev qvu:List Ty:=[T3]
noncomputable def qAx(n:Nat)(x:qQ qvt):Option (qt qvu):=(qo tab (quq n) (qy7 n) (qa Try.f55) 0 (q8 qvt 8 x)).run (qcK tab [.tmp 2] qvu)
noncomputable def qsj(n:Nat):Ct Try.prog:=⟨55,qvt,.ts qvu,qAx n,fun _ _ h=>qcR (B:=tab) (cs:=quq n) (lo:=qy7 n) (rs:=[.tmp 2]) Try.func55 (by kernel_rfl) qGC (by kernel_rfl) (by decide) (ql (qGB n) qf) h⟩
noncomputable def qvv(n:Nat):CL Try.prog:=⟨[],[],0,fun _=>false⟩
noncomputable def qAy(n:Nat):Nat→St→PT (DEx×St):=fun _ _=>.fail
theorem qHl(n:Nat):qe (qvv n).c (qa Try.f36) 0=[]:=by kernel_rfl
theorem qHm:Try.f36.body=some (qa Try.f36):=by kernel_rfl
abbrev qwz:List Ar:=[.d T3,.d T3,.d T3]
abbrev qwA:List Ty:=[T4]
noncomputable def qBp(n:Nat)(x:qQ qwz):Option (qt qwA):=(qo tab (qvv n) (qAy n) (qa Try.f36) 0 (q8 qwz 15 x)).run (qcK tab [.tmp 6] qwA)
noncomputable def qnQ(n:Nat):Ct Try.prog:=⟨36,qwz,.ts qwA,qBp n,fun _ _ h=>qcR (B:=tab) (cs:=qvv n) (lo:=qAy n) (rs:=[.tmp 6]) Try.func36 (by kernel_rfl) qHm (by kernel_rfl) (by decide) (ql (qHl n) qf) h⟩
noncomputable def qtN(n:Nat):CL Try.prog:=⟨[qnQ n],[],0,fun _=>false⟩
noncomputable def qyb(n:Nat):Nat→St→PT (DEx×St):=fun _ _=>.fail
theorem qFN(n:Nat):qe (qtN n).c (qa Try.f50) 0=[]:=by kernel_rfl
theorem qFO:Try.f50.body=some (qa Try.f50):=by kernel_rfl
abbrev qur:List Ar:=[.d T69,.d T3]
abbrev qus:List Ty:=[T4]
noncomputable def qy8(n:Nat)(x:qQ qur):Option (qt qus):=(qo tab (qtN n) (qyb n) (qa Try.f50) 0 (q8 qur 12 x)).run (qcK tab [.tmp 4] qus)
noncomputable def qy9(n:Nat):Ct Try.prog:=⟨50,qur,.ts qus,qy8 n,fun _ _ h=>qcR (B:=tab) (cs:=qtN n) (lo:=qyb n) (rs:=[.tmp 4]) Try.func50 (by kernel_rfl) qFO (by kernel_rfl) (by decide) (ql (qFN n) qf) h⟩
noncomputable def qrT(n:Nat):CL Try.prog:=⟨[qnQ n],[],0,fun _=>false⟩
noncomputable def qv7(n:Nat):Nat→St→PT (DEx×St):=fun _ _=>.fail
theorem qDT(n:Nat):qe (qrT n).c (qa Try.f51) 0=[]:=by kernel_rfl
theorem qDU:Try.f51.body=some (qa Try.f51):=by kernel_rfl
abbrev qsO:List Ar:=[.d T69,.d T3]
abbrev qsP:List Ty:=[T4]
noncomputable def qxf(n:Nat)(x:qQ qsO):Option (qt qsP):=(qo tab (qrT n) (qv7 n) (qa Try.f51) 0 (q8 qsO 11 x)).run (qcK tab [.tmp 4] qsP)
noncomputable def qxg(n:Nat):Ct Try.prog:=⟨51,qsO,.ts qsP,qxf n,fun _ _ h=>qcR (B:=tab) (cs:=qrT n) (lo:=qv7 n) (rs:=[.tmp 4]) Try.func51 (by kernel_rfl) qDU (by kernel_rfl) (by decide) (ql (qDT n) qf) h⟩
noncomputable def qje(n:Nat):CL Try.prog:=⟨[qnQ n,qy9 n,qxg n],[],0,fun _=>false⟩
noncomputable def qvw(n:Nat):Nat→St→PT (DEx×St):=fun _ _=>.fail
abbrev qk6:List It:=[.v (.t 5) T3,.v (.t 8) T28,.v (.t 9) T3,.v (.t 10) T3,.obj (.t 2) false 69 2,.v (.c 0 0) T69]
abbrev qoy:List (DEx×List It):=[(.exit 0,[]),(.ret,[.v (.t 4) T4])]
noncomputable def qv8(n:Nat)(rec:qc qk6→Option (qk qoy))(s:qc qk6):Option (qk qoy):=(qo tab (qje n) (qvw n) (subC [true,true,false,true,false,false] (qa Try.f105)) 1 (mkS qk6 43 s)).run (Lp.leaf 43 qk6 qoy rec)
noncomputable def qrU(n:Nat):Lp:=⟨43,qk6,qoy,qh n (qv8 n)⟩
theorem qDi(n:Nat):qe (qje n).c (subC [true,true,false,true,false,false] (qa Try.f105)) 1=[]:=by kernel_rfl
theorem qAS(n:Nat)(st:St)(r:DEx×St)(h:((qrU n).go st).Is r):DA Try.prog false (.loop (subC [true,true,false,true,false,false] (qa Try.f105))) st r:=Lp.ok (L:=qrU n) (B:=tab) (cs:=qje n) (lo:=qvw n) (id:=0) rfl (ql (qDi n) qf) (fun _ _=>rfl) h
noncomputable def qv9(n:Nat):Nat→St→PT (DEx×St):=fun k st=>match k with
 | 0=>(qrU n).go st
 | _=>.fail
theorem qDV(n:Nat):qe (qje n).c (qa Try.f105) 0=[(0,.loop (subC [true,true,false,true,false,false] (qa Try.f105)))]:=by kernel_rfl
theorem qDW:Try.f105.body=some (qa Try.f105):=by kernel_rfl
abbrev qsQ:List Ar:=[.d T69,.d T28]
abbrev qsR:List Ty:=[T4]
noncomputable def qxh(n:Nat)(x:qQ qsQ):Option (qt qsR):=(qo tab (qje n) (qv9 n) (qa Try.f105) 0 (q8 qsQ 43 x)).run (qcK tab [.tmp 4] qsR)
noncomputable def qDX(n:Nat):Ct Try.prog:=⟨105,qsQ,.ts qsR,qxh n,fun _ _ h=>qcR (B:=tab) (cs:=qje n) (lo:=qv9 n) (rs:=[.tmp 4]) Try.func105 (by kernel_rfl) qDW (by kernel_rfl) (by decide) (ql (qDV n) (all_cons (fun st r h=>qAS n st r h) qf)) h⟩
noncomputable def qqp(n:Nat):CL Try.prog:=⟨[qnQ n,qDX n],[],0,fun _=>false⟩
noncomputable def quV(n:Nat):Nat→St→PT (DEx×St):=fun _ _=>.fail
theorem qCz(n:Nat):qe (qqp n).c (qa Try.f92) 0=[]:=by kernel_rfl
theorem qCA:Try.f92.body=some (qa Try.f92):=by kernel_rfl
abbrev qrj:List Ar:=[.d T69,.d T30]
abbrev qrk:List Ty:=[T4]
noncomputable def qvx(n:Nat)(x:qQ qrj):Option (qt qrk):=(qo tab (qqp n) (quV n) (qa Try.f92) 0 (q8 qrj 49 x)).run (qcK tab [.tmp 4] qrk)
noncomputable def qCB(n:Nat):Ct Try.prog:=⟨92,qrj,.ts qrk,qvx n,fun _ _ h=>qcR (B:=tab) (cs:=qqp n) (lo:=quV n) (rs:=[.tmp 4]) Try.func92 (by kernel_rfl) qCA (by kernel_rfl) (by decide) (ql (qCz n) qf) h⟩
noncomputable def qo5(n:Nat):CL Try.prog:=⟨[],[],0,fun _=>false⟩
noncomputable def qBq(n:Nat):Nat→St→PT (DEx×St):=fun _ _=>.fail
abbrev qrF:List It:=[.v (.t 3) T3,.v (.t 6) T32,.v (.t 7) T3,.v (.t 8) T3]
abbrev qui:List (DEx×List It):=[(.exit 0,[.v (.t 3) T3]),(.ret,[.v (.t 2) T3])]
noncomputable def qC4(n:Nat)(rec:qc qrF→Option (qk qui))(s:qc qrF):Option (qk qui):=(qo tab (qo5 n) (qBq n) (subC [true,true,false,true,false,false] (qa Try.f76)) 1 (mkS qrF 18 s)).run (Lp.leaf 18 qrF qui rec)
noncomputable def qxM(n:Nat):Lp:=⟨18,qrF,qui,qh n (qC4 n)⟩
theorem qIu(n:Nat):qe (qo5 n).c (subC [true,true,false,true,false,false] (qa Try.f76)) 1=[]:=by kernel_rfl
theorem qFP(n:Nat)(st:St)(r:DEx×St)(h:((qxM n).go st).Is r):DA Try.prog false (.loop (subC [true,true,false,true,false,false] (qa Try.f76))) st r:=Lp.ok (L:=qxM n) (B:=tab) (cs:=qo5 n) (lo:=qBq n) (id:=0) rfl (ql (qIu n) qf) (fun _ _=>rfl) h
noncomputable def qC5(n:Nat):Nat→St→PT (DEx×St):=fun k st=>match k with
 | 0=>(qxM n).go st
 | _=>.fail
theorem qJx(n:Nat):qe (qo5 n).c (qa Try.f76) 0=[(0,.loop (subC [true,true,false,true,false,false] (qa Try.f76)))]:=by kernel_rfl
theorem qJy:Try.f76.body=some (qa Try.f76):=by kernel_rfl
abbrev qza:List Ar:=[.d T32]
abbrev qzb:List Ty:=[T3]
noncomputable def qDY(n:Nat)(x:qQ qza):Option (qt qzb):=(qo tab (qo5 n) (qC5 n) (qa Try.f76) 0 (q8 qza 18 x)).run (qcK tab [.tmp 2] qzb)
noncomputable def qzc(n:Nat):Ct Try.prog:=⟨76,qza,.ts qzb,qDY n,fun _ _ h=>qcR (B:=tab) (cs:=qo5 n) (lo:=qC5 n) (rs:=[.tmp 2]) Try.func76 (by kernel_rfl) qJy (by kernel_rfl) (by decide) (ql (qJx n) (all_cons (fun st r h=>qFP n st r h) qf)) h⟩
noncomputable def qo6(n:Nat):CL Try.prog:=⟨[],[],0,fun _=>false⟩
noncomputable def qBr(n:Nat):Nat→St→PT (DEx×St):=fun _ _=>.fail
abbrev qrG:List It:=[.v (.t 0) T25,.v (.t 5) T25,.v (.t 6) T3,.v (.t 7) T3]
abbrev quj:List (DEx×List It):=[(.exit 0,[]),(.ret,[.v (.t 2) T4])]
noncomputable def qC6(n:Nat)(rec:qc qrG→Option (qk quj))(s:qc qrG):Option (qk quj):=(qo tab (qo6 n) (qBr n) (subC [true,false,true,false,false] (qa Try.f40)) 1 (mkS qrG 37 s)).run (Lp.leaf 37 qrG quj rec)
noncomputable def qxN(n:Nat):Lp:=⟨37,qrG,quj,qh n (qC6 n)⟩
theorem qIv(n:Nat):qe (qo6 n).c (subC [true,false,true,false,false] (qa Try.f40)) 1=[]:=by kernel_rfl
theorem qFQ(n:Nat)(st:St)(r:DEx×St)(h:((qxN n).go st).Is r):DA Try.prog false (.loop (subC [true,false,true,false,false] (qa Try.f40))) st r:=Lp.ok (L:=qxN n) (B:=tab) (cs:=qo6 n) (lo:=qBr n) (id:=0) rfl (ql (qIv n) qf) (fun _ _=>rfl) h
noncomputable def qC7(n:Nat):Nat→St→PT (DEx×St):=fun k st=>match k with
 | 0=>(qxN n).go st
 | _=>.fail
theorem qJz(n:Nat):qe (qo6 n).c (qa Try.f40) 0=[(0,.loop (subC [true,false,true,false,false] (qa Try.f40)))]:=by kernel_rfl
theorem qJA:Try.f40.body=some (qa Try.f40):=by kernel_rfl
abbrev qzd:List Ar:=[.d T25]
abbrev qze:List Ty:=[T4]
noncomputable def qDZ(n:Nat)(x:qQ qzd):Option (qt qze):=(qo tab (qo6 n) (qC7 n) (qa Try.f40) 0 (q8 qzd 37 x)).run (qcK tab [.tmp 2] qze)
noncomputable def qD0(n:Nat):Ct Try.prog:=⟨40,qzd,.ts qze,qDZ n,fun _ _ h=>qcR (B:=tab) (cs:=qo6 n) (lo:=qC7 n) (rs:=[.tmp 2]) Try.func40 (by kernel_rfl) qJA (by kernel_rfl) (by decide) (ql (qJz n) (all_cons (fun st r h=>qFQ n st r h) qf)) h⟩
noncomputable def qd2(n:Nat):CL Try.prog:=⟨[qCy n,qzR n,qre n,qvn n],[],0,fun _=>false⟩
noncomputable def qt7(n:Nat):Nat→St→PT (DEx×St):=fun _ _=>.fail
abbrev qjJ:List It:=[.v (.t 10) T25,.v (.t 11) T3,.v (.t 12) T3,.v (.t 13) T4,.v (.t 14) T3]
abbrev qmM:List (DEx×List It):=[(.exit 2,[.v (.t 10) T25,.v (.t 11) T3,.v (.t 12) T3,.v (.t 13) T4])]
noncomputable def quW(n:Nat)(rec:qc qjJ→Option (qk qmM))(s:qc qjJ):Option (qk qmM):=(qo tab (qd2 n) (qt7 n) (subC [true,true,true,true,true,false,true,false,false,true,false,false,true,false,true,false,false] (qa Try.f27)) 2 (mkS qjJ 65 s)).run (Lp.leaf 65 qjJ qmM rec)
noncomputable def qqq(n:Nat):Lp:=⟨65,qjJ,qmM,qh n (quW n)⟩
theorem qBs(n:Nat):qe (qd2 n).c (subC [true,true,true,true,true,false,true,false,false,true,false,false,true,false,true,false,false] (qa Try.f27)) 2=[]:=by kernel_rfl
theorem qzf(n:Nat)(st:St)(r:DEx×St)(h:((qqq n).go st).Is r):DA Try.prog false (.loop (subC [true,true,true,true,true,false,true,false,false,true,false,false,true,false,true,false,false] (qa Try.f27))) st r:=Lp.ok (L:=qqq n) (B:=tab) (cs:=qd2 n) (lo:=qt7 n) (id:=1) rfl (ql (qBs n) qf) (fun _ _=>rfl) h
noncomputable def qt8(n:Nat):Nat→St→PT (DEx×St):=fun k st=>match k with
 | 1=>(qqq n).go st
 | _=>.fail
abbrev qjK:List It:=[.v (.t 10) T25,.v (.t 11) T3,.v (.t 12) T3]
abbrev qmN:List (DEx×List It):=[(.exit 0,[.v (.t 10) T25,.v (.t 11) T3])]
noncomputable def quX(n:Nat)(rec:qc qjK→Option (qk qmN))(s:qc qjK):Option (qk qmN):=(qo tab (qd2 n) (qt8 n) (subC [true,true,true,true,true,false,true,false,false] (qa Try.f27)) 1 (mkS qjK 65 s)).run (Lp.leaf 65 qjK qmN rec)
noncomputable def qqr(n:Nat):Lp:=⟨65,qjK,qmN,qh n (quX n)⟩
theorem qBt(n:Nat):qe (qd2 n).c (subC [true,true,true,true,true,false,true,false,false] (qa Try.f27)) 1=[(1,.loop (subC [true,true,true,true,true,false,true,false,false,true,false,false,true,false,true,false,false] (qa Try.f27)))]:=by kernel_rfl
theorem qzg(n:Nat)(st:St)(r:DEx×St)(h:((qqr n).go st).Is r):DA Try.prog false (.loop (subC [true,true,true,true,true,false,true,false,false] (qa Try.f27))) st r:=Lp.ok (L:=qqr n) (B:=tab) (cs:=qd2 n) (lo:=qt8 n) (id:=0) rfl (ql (qBt n) (all_cons (fun st r h=>qzf n st r h) qf)) (fun _ _=>rfl) h
noncomputable def quY(n:Nat):Nat→St→PT (DEx×St):=fun k st=>match k with
 | 0=>(qqr n).go st
 | _=>.fail
theorem qCC(n:Nat):qe (qd2 n).c (qa Try.f27) 0=[(0,.loop (subC [true,true,true,true,true,false,true,false,false] (qa Try.f27)))]:=by kernel_rfl
theorem qCD:Try.f27.body=some (qa Try.f27):=by kernel_rfl
abbrev qrl:List Ar:=[.d T24,.d T25,.d T25]
abbrev qrm:List Ty:=[T25,T33]
noncomputable def qvy(n:Nat)(x:qQ qrl):Option (qt qrm):=(qo tab (qd2 n) (quY n) (qa Try.f27) 0 (q8 qrl 65 x)).run (qcK tab [.tmp 6,.tmp 7] qrm)
noncomputable def qCE(n:Nat):Ct Try.prog:=⟨27,qrl,.ts qrm,qvy n,fun _ _ h=>qcR (B:=tab) (cs:=qd2 n) (lo:=quY n) (rs:=[.tmp 6,.tmp 7]) Try.func27 (by kernel_rfl) qCD (by kernel_rfl) (by decide) (ql (qCC n) (all_cons (fun st r h=>qzg n st r h) qf)) h⟩
noncomputable def qiN(n:Nat):CL Try.prog:=⟨[],[],0,fun _=>false⟩
noncomputable def quZ(n:Nat):Nat→St→PT (DEx×St):=fun _ _=>.fail
abbrev qkk:List It:=[.v (.t 0) T25,.v (.t 4) T3,.row (.t 3) false T30 30]
abbrev qns:List (DEx×List It):=[(.exit 0,[.row (.t 3) false T30 30])]
noncomputable def qCF(n:Nat)(rec:qc qkk→Option (qk qns))(s:qc qkk):Option (qk qns):=(qo tab (qiN n) (quZ n) (subC [true,true,false,true,false,false] (qa Try.f26)) 1 (mkS qkk 26 s)).run (Lp.leaf 26 qkk qns rec)
noncomputable def qrn(n:Nat):Lp:=⟨26,qkk,qns,qh n (qCF n)⟩
theorem qCG(n:Nat):qe (qiN n).c (subC [true,true,false,true,false,false] (qa Try.f26)) 1=[]:=by kernel_rfl
theorem qzS(n:Nat)(st:St)(r:DEx×St)(h:((qrn n).go st).Is r):DA Try.prog false (.loop (subC [true,true,false,true,false,false] (qa Try.f26))) st r:=Lp.ok (L:=qrn n) (B:=tab) (cs:=qiN n) (lo:=quZ n) (id:=0) rfl (ql (qCG n) qf) (fun _ _=>rfl) h
noncomputable def qvz(n:Nat):Nat→St→PT (DEx×St):=fun k st=>match k with
 | 0=>(qrn n).go st
 | _=>.fail
theorem qDj(n:Nat):qe (qiN n).c (qa Try.f26) 0=[(0,.loop (subC [true,true,false,true,false,false] (qa Try.f26)))]:=by kernel_rfl
theorem qDk:Try.f26.body=some (qa Try.f26):=by kernel_rfl
abbrev qrV:List Ar:=[.d T25]
abbrev qrW:List Ty:=[T25]
noncomputable def qDl(n:Nat)(x:qQ qrV):Option (qt qrW):=(qo tab (qiN n) (qvz n) (qa Try.f26) 0 (q8 qrV 26 x)).run (qcK tab [.tmp 2] qrW)
noncomputable def qDm(n:Nat):Ct Try.prog:=⟨26,qrV,.ts qrW,qDl n,fun _ _ h=>qcR (B:=tab) (cs:=qiN n) (lo:=qvz n) (rs:=[.tmp 2]) Try.func26 (by kernel_rfl) qDk (by kernel_rfl) (by decide) (ql (qDj n) (all_cons (fun st r h=>qzS n st r h) qf)) h⟩
noncomputable def qnt(n:Nat):CL Try.prog:=⟨[],[],0,fun _=>false⟩
noncomputable def qsk(n:Nat):Nat→St→PT (DEx×St):=fun _ _=>.fail
theorem qzh(n:Nat):qe (qnt n).c (qa Try.f25) 0=[]:=by kernel_rfl
theorem qzi:Try.f25.body=some (qa Try.f25):=by kernel_rfl
abbrev qn9:List Ar:=[.d T24]
abbrev qoa:List Ty:=[T24]
noncomputable def qsS(n:Nat)(x:qQ qn9):Option (qt qoa):=(qo tab (qnt n) (qsk n) (qa Try.f25) 0 (q8 qn9 10 x)).run (qcK tab [.cell 2 24] qoa)
noncomputable def qzj(n:Nat):Ct Try.prog:=⟨25,qn9,.ts qoa,qsS n,fun _ _ h=>qcR (B:=tab) (cs:=qnt n) (lo:=qsk n) (rs:=[.cell 2 24]) Try.func25 (by kernel_rfl) qzi (by kernel_rfl) (by decide) (ql (qzh n) qf) h⟩
noncomputable def qgb(n:Nat):CL Try.prog:=⟨[],[],0,fun _=>false⟩
noncomputable def qsl(n:Nat):Nat→St→PT (DEx×St):=fun _ _=>.fail
abbrev qim:List It:=[.v (.t 0) T32,.v (.t 1) T32,.v (.t 5) T3]
abbrev qkl:List (DEx×List It):=[(.exit 0,[]),(.ret,[.v (.t 4) T4])]
noncomputable def qsT(n:Nat)(rec:qc qim→Option (qk qkl))(s:qc qim):Option (qk qkl):=(qo tab (qgb n) (qsl n) (subC [true,true,false,true,false,false] (qa Try.f14)) 1 (mkS qim 26 s)).run (Lp.leaf 26 qim qkl rec)
noncomputable def qob(n:Nat):Lp:=⟨26,qim,qkl,qh n (qsT n)⟩
theorem qzk(n:Nat):qe (qgb n).c (subC [true,true,false,true,false,false] (qa Try.f14)) 1=[]:=by kernel_rfl
theorem qxi(n:Nat)(st:St)(r:DEx×St)(h:((qob n).go st).Is r):DA Try.prog false (.loop (subC [true,true,false,true,false,false] (qa Try.f14))) st r:=Lp.ok (L:=qob n) (B:=tab) (cs:=qgb n) (lo:=qsl n) (id:=0) rfl (ql (qzk n) qf) (fun _ _=>rfl) h
noncomputable def qsU(n:Nat):Nat→St→PT (DEx×St):=fun k st=>match k with
 | 0=>(qob n).go st
 | _=>.fail
theorem qzT(n:Nat):qe (qgb n).c (qa Try.f14) 0=[(0,.loop (subC [true,true,false,true,false,false] (qa Try.f14)))]:=by kernel_rfl
theorem qzU:Try.f14.body=some (qa Try.f14):=by kernel_rfl
abbrev qoR:List Ar:=[.d T32,.d T32]
abbrev qoS:List Ty:=[T4]
noncomputable def qtw(n:Nat)(x:qQ qoR):Option (qt qoS):=(qo tab (qgb n) (qsU n) (qa Try.f14) 0 (q8 qoR 26 x)).run (qcK tab [.tmp 4] qoS)
noncomputable def qzV(n:Nat):Ct Try.prog:=⟨14,qoR,.ts qoS,qtw n,fun _ _ h=>qcR (B:=tab) (cs:=qgb n) (lo:=qsU n) (rs:=[.tmp 4]) Try.func14 (by kernel_rfl) qzU (by kernel_rfl) (by decide) (ql (qzT n) (all_cons (fun st r h=>qxi n st r h) qf)) h⟩
noncomputable def qeI(n:Nat):CL Try.prog:=⟨[qre n],[],0,fun _=>false⟩
noncomputable def qpW(n:Nat):Nat→St→PT (DEx×St):=fun _ _=>.fail
abbrev qgc:List It:=[.v (.t 0) T25,.v (.t 1) T25,.v (.t 5) T3]
abbrev qiO:List (DEx×List It):=[(.exit 0,[]),(.ret,[.v (.t 4) T4])]
noncomputable def qqs(n:Nat)(rec:qc qgc→Option (qk qiO))(s:qc qgc):Option (qk qiO):=(qo tab (qeI n) (qpW n) (subC [true,true,false,true,false,false] (qa Try.f23)) 1 (mkS qgc 27 s)).run (Lp.leaf 27 qgc qiO rec)
noncomputable def qli(n:Nat):Lp:=⟨27,qgc,qiO,qh n (qqs n)⟩
theorem qwB(n:Nat):qe (qeI n).c (subC [true,true,false,true,false,false] (qa Try.f23)) 1=[]:=by kernel_rfl
theorem qu8(n:Nat)(st:St)(r:DEx×St)(h:((qli n).go st).Is r):DA Try.prog false (.loop (subC [true,true,false,true,false,false] (qa Try.f23))) st r:=Lp.ok (L:=qli n) (B:=tab) (cs:=qeI n) (lo:=qpW n) (id:=0) rfl (ql (qwB n) qf) (fun _ _=>rfl) h
noncomputable def qqt(n:Nat):Nat→St→PT (DEx×St):=fun k st=>match k with
 | 0=>(qli n).go st
 | _=>.fail
theorem qxj(n:Nat):qe (qeI n).c (qa Try.f23) 0=[(0,.loop (subC [true,true,false,true,false,false] (qa Try.f23)))]:=by kernel_rfl
theorem qxk:Try.f23.body=some (qa Try.f23):=by kernel_rfl
abbrev ql8:List Ar:=[.d T25,.d T25]
abbrev ql9:List Ty:=[T4]
noncomputable def qqY(n:Nat)(x:qQ ql8):Option (qt ql9):=(qo tab (qeI n) (qqt n) (qa Try.f23) 0 (q8 ql8 27 x)).run (qcK tab [.tmp 4] ql9)
noncomputable def qxl(n:Nat):Ct Try.prog:=⟨23,ql8,.ts ql9,qqY n,fun _ _ h=>qcR (B:=tab) (cs:=qeI n) (lo:=qqt n) (rs:=[.tmp 4]) Try.func23 (by kernel_rfl) qxk (by kernel_rfl) (by decide) (ql (qxj n) (all_cons (fun st r h=>qu8 n st r h) qf)) h⟩
noncomputable def qjf(n:Nat):CL Try.prog:=⟨[],[],0,fun _=>false⟩
noncomputable def qvA(n:Nat):Nat→St→PT (DEx×St):=fun _ _=>.fail
abbrev qk7:List It:=[.v (.t 1) T25,.v (.t 5) T3,.obj (.t 2) false 24 2,.v (.c 0 0) T24]
abbrev qoz:List (DEx×List It):=[(.exit 0,[.v (.t 1) T25,.obj (.t 2) false 24 2,.v (.c 0 0) T24]),(.ret,[.v (.t 4) T4])]
noncomputable def qwa(n:Nat)(rec:qc qk7→Option (qk qoz))(s:qc qk7):Option (qk qoz):=(qo tab (qjf n) (qvA n) (subC [true,false,true,false,false] (qa Try.f24)) 1 (mkS qk7 38 s)).run (Lp.leaf 38 qk7 qoz rec)
noncomputable def qrX(n:Nat):Lp:=⟨38,qk7,qoz,qh n (qwa n)⟩
theorem qDn(n:Nat):qe (qjf n).c (subC [true,false,true,false,false] (qa Try.f24)) 1=[]:=by kernel_rfl
theorem qAT(n:Nat)(st:St)(r:DEx×St)(h:((qrX n).go st).Is r):DA Try.prog false (.loop (subC [true,false,true,false,false] (qa Try.f24))) st r:=Lp.ok (L:=qrX n) (B:=tab) (cs:=qjf n) (lo:=qvA n) (id:=0) rfl (ql (qDn n) qf) (fun _ _=>rfl) h
noncomputable def qwb(n:Nat):Nat→St→PT (DEx×St):=fun k st=>match k with
 | 0=>(qrX n).go st
 | _=>.fail
theorem qD1(n:Nat):qe (qjf n).c (qa Try.f24) 0=[(0,.loop (subC [true,false,true,false,false] (qa Try.f24)))]:=by kernel_rfl
theorem qD2:Try.f24.body=some (qa Try.f24):=by kernel_rfl
abbrev qsV:List Ar:=[.d T24,.d T25]
abbrev qsW:List Ty:=[T4]
noncomputable def qxm(n:Nat)(x:qQ qsV):Option (qt qsW):=(qo tab (qjf n) (qwb n) (qa Try.f24) 0 (q8 qsV 38 x)).run (qcK tab [.tmp 4] qsW)
noncomputable def qD3(n:Nat):Ct Try.prog:=⟨24,qsV,.ts qsW,qxm n,fun _ _ h=>qcR (B:=tab) (cs:=qjf n) (lo:=qwb n) (rs:=[.tmp 4]) Try.func24 (by kernel_rfl) qD2 (by kernel_rfl) (by decide) (ql (qD1 n) (all_cons (fun st r h=>qAT n st r h) qf)) h⟩
noncomputable def qoT(n:Nat):CL Try.prog:=⟨[],[],0,fun _=>false⟩
noncomputable def qtx(n:Nat):Nat→St→PT (DEx×St):=fun _ _=>.fail
theorem qAU(n:Nat):qe (qoT n).c (qa Try.f30) 0=[]:=by kernel_rfl
theorem qAV:Try.f30.body=some (qa Try.f30):=by kernel_rfl
abbrev qpy:List Ar:=[]
abbrev qpz:List Ty:=[T24,T25]
noncomputable def qt9(n:Nat)(x:qQ qpy):Option (qt qpz):=(qo tab (qoT n) (qtx n) (qa Try.f30) 0 (q8 qpy 27 x)).run (qcK tab [.cell 0 24,.tmp 1] qpz)
noncomputable def qAW(n:Nat):Ct Try.prog:=⟨30,qpy,.ts qpz,qt9 n,fun _ _ h=>qcR (B:=tab) (cs:=qoT n) (lo:=qtx n) (rs:=[.cell 0 24,.tmp 1]) Try.func30 (by kernel_rfl) qAV (by kernel_rfl) (by decide) (ql (qAU n) qf) h⟩
end Go.Proofs.Ytcjgodgpaokbnaa
