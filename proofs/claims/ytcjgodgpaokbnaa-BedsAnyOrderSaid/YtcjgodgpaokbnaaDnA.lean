/- Printed: what functions of the program compute. -/
import Derived.Test.YtcjgodgpaokbnaaDnT
set_option linter.constructorNameAsVariable false
set_option linter.unusedSimpArgs false
set_option linter.unusedVariables false
set_option linter.unusedSectionVars false
namespace Go.Proofs.Ytcjgodgpaokbnaa
open Go Go.Proofs Go.RowKit
set_option maxRecDepth 20000
noncomputable def qo2(n:Nat):CL Try.prog:=⟨[],[],0,fun _=>false⟩
noncomputable def qtc(n:Nat):Nat→St→PT (DEx×St):=fun _ _=>.fail
theorem qz8(n:Nat):qe (qo2 n).c (qa Try.f35) 0=[]:=by kernel_rfl
theorem qz9:Try.f35.body=some (qa Try.f35):=by kernel_rfl
abbrev qpI:List Ar:=[.d T3,.d T3,.d T3]
abbrev qpJ:List Ty:=[T4]
noncomputable def qtU(n:Nat)(x:qR qpI):Option (qu qpJ):=(qq tab (qo2 n) (qtc n) (qa Try.f35) 0 (qbc qpI 15 x)).run (qcR tab [.tmp 6] qpJ)
noncomputable def qpK(n:Nat):Ct Try.prog:=⟨35,qpI,.ts qpJ,qtU n,fun _ _ h=>qcV (B:=tab) (cs:=qo2 n) (lo:=qtc n) (rs:=[.tmp 6]) Try.func35 (by kernel_rfl) qz9 (by kernel_rfl) (by decide) (ql (qz8 n) qf) h⟩
noncomputable def qgW(n:Nat):CL Try.prog:=⟨[qpK n],[],0,fun _=>false⟩
noncomputable def qrU(n:Nat):Nat→St→PT (DEx×St):=fun _ _=>.fail
abbrev qiK:List It:=[.v (.t 3) T3,.obj (.t 1) false 24 2,.v (.c 0 0) T24]
abbrev qkJ:List (DEx×List It):=[(.exit 0,[.obj (.t 1) false 24 2,.v (.c 0 0) T24]),(.ret,[.v (.t 2) T4])]
noncomputable def qsE(n:Nat)(rec:qc qiK→Option (qk qkJ))(s:qc qiK):Option (qk qkJ):=(qq tab (qgW n) (qrU n) (subC [true,false,true,false,false] (qa Try.f46)) 1 (mkS qiK 38 s)).run (Lp.leaf 38 qiK qkJ rec)
noncomputable def qoo(n:Nat):Lp:=⟨38,qiK,qkJ,qj n (qsE n)⟩
theorem qyH(n:Nat):qe (qgW n).c (subC [true,false,true,false,false] (qa Try.f46)) 1=[]:=by kernel_rfl
theorem qwK(n:Nat)(st:St)(r:DEx×St)(h:((qoo n).go st).Is r):DA Try.prog false (.loop (subC [true,false,true,false,false] (qa Try.f46))) st r:=Lp.ok (L:=qoo n) (B:=tab) (cs:=qgW n) (lo:=qrU n) (id:=0) rfl (ql (qyH n) qf) (fun _ _=>rfl) h
noncomputable def qsF(n:Nat):Nat→St→PT (DEx×St):=fun k st=>match k with
 | 0=>(qoo n).go st
 | _=>.fail
theorem qzG(n:Nat):qe (qgW n).c (qa Try.f46) 0=[(0,.loop (subC [true,false,true,false,false] (qa Try.f46)))]:=by kernel_rfl
theorem qzH:Try.f46.body=some (qa Try.f46):=by kernel_rfl
abbrev qo3:List Ar:=[.d T24]
abbrev qo4:List Ty:=[T4]
noncomputable def qtd(n:Nat)(x:qR qo3):Option (qu qo4):=(qq tab (qgW n) (qsF n) (qa Try.f46) 0 (qbc qo3 38 x)).run (qcR tab [.tmp 2] qo4)
noncomputable def qzI(n:Nat):Ct Try.prog:=⟨46,qo3,.ts qo4,qtd n,fun _ _ h=>qcV (B:=tab) (cs:=qgW n) (lo:=qsF n) (rs:=[.tmp 2]) Try.func46 (by kernel_rfl) qzH (by kernel_rfl) (by decide) (ql (qzG n) (all_cons (fun st r h=>qwK n st r h) qf)) h⟩
noncomputable def qfH(n:Nat):CL Try.prog:=⟨[qpK n],[],0,fun _=>false⟩
noncomputable def qq2(n:Nat):Nat→St→PT (DEx×St):=fun _ _=>.fail
abbrev qhB:List It:=[.v (.t 5) T3,.v (.t 6) T3,.obj (.t 2) false 24 2,.v (.c 0 0) T24,.obj (.t 3) false 30 5,.v (.c 1 0) T30]
abbrev qjN:List (DEx×List It):=[(.exit 0,[]),(.ret,[.v (.t 4) T4])]
noncomputable def qrA(n:Nat)(rec:qc qhB→Option (qk qjN))(s:qc qhB):Option (qk qjN):=(qq tab (qfH n) (qq2 n) (subC [true,true,true,false,true,false,false] (qa Try.f68)) 1 (mkS qhB 77 s)).run (Lp.leaf 77 qhB qjN rec)
noncomputable def qm8(n:Nat):Lp:=⟨77,qhB,qjN,qj n (qrA n)⟩
theorem qxE(n:Nat):qe (qfH n).c (subC [true,true,true,false,true,false,false] (qa Try.f68)) 1=[]:=by kernel_rfl
theorem qvw(n:Nat)(st:St)(r:DEx×St)(h:((qm8 n).go st).Is r):DA Try.prog false (.loop (subC [true,true,true,false,true,false,false] (qa Try.f68))) st r:=Lp.ok (L:=qm8 n) (B:=tab) (cs:=qfH n) (lo:=qq2 n) (id:=0) rfl (ql (qxE n) qf) (fun _ _=>rfl) h
noncomputable def qrB(n:Nat):Nat→St→PT (DEx×St):=fun k st=>match k with
 | 0=>(qm8 n).go st
 | _=>.fail
theorem qxZ(n:Nat):qe (qfH n).c (qa Try.f68) 0=[(0,.loop (subC [true,true,true,false,true,false,false] (qa Try.f68)))]:=by kernel_rfl
theorem qx0:Try.f68.body=some (qa Try.f68):=by kernel_rfl
abbrev qnF:List Ar:=[.d T24,.d T30]
abbrev qnG:List Ty:=[T4]
noncomputable def qrV(n:Nat)(x:qR qnF):Option (qu qnG):=(qq tab (qfH n) (qrB n) (qa Try.f68) 0 (qbc qnF 77 x)).run (qcR tab [.tmp 4] qnG)
noncomputable def qx1(n:Nat):Ct Try.prog:=⟨68,qnF,.ts qnG,qrV n,fun _ _ h=>qcV (B:=tab) (cs:=qfH n) (lo:=qrB n) (rs:=[.tmp 4]) Try.func68 (by kernel_rfl) qx0 (by kernel_rfl) (by decide) (ql (qxZ n) (all_cons (fun st r h=>qvw n st r h) qf)) h⟩
noncomputable def qe3(n:Nat):CL Try.prog:=⟨[qpK n,qx1 n],[],0,fun _=>false⟩
noncomputable def qpL(n:Nat):Nat→St→PT (DEx×St):=fun _ _=>.fail
abbrev qgL:List It:=[.v (.t 1) T25,.v (.t 5) T3,.obj (.t 2) false 24 2,.v (.c 0 0) T24]
abbrev qiT:List (DEx×List It):=[(.exit 0,[.v (.t 1) T25]),(.ret,[.v (.t 4) T4])]
noncomputable def qqk(n:Nat)(rec:qc qgL→Option (qk qiT))(s:qc qgL):Option (qk qiT):=(qq tab (qe3 n) (qpL n) (subC [true,false,true,false,false] (qa Try.f47)) 1 (mkS qgL 54 s)).run (Lp.leaf 54 qgL qiT rec)
noncomputable def qlO(n:Nat):Lp:=⟨54,qgL,qiT,qj n (qqk n)⟩
theorem qwb(n:Nat):qe (qe3 n).c (subC [true,false,true,false,false] (qa Try.f47)) 1=[]:=by kernel_rfl
theorem qum(n:Nat)(st:St)(r:DEx×St)(h:((qlO n).go st).Is r):DA Try.prog false (.loop (subC [true,false,true,false,false] (qa Try.f47))) st r:=Lp.ok (L:=qlO n) (B:=tab) (cs:=qe3 n) (lo:=qpL n) (id:=0) rfl (ql (qwb n) qf) (fun _ _=>rfl) h
noncomputable def qql(n:Nat):Nat→St→PT (DEx×St):=fun k st=>match k with
 | 0=>(qlO n).go st
 | _=>.fail
theorem qwL(n:Nat):qe (qe3 n).c (qa Try.f47) 0=[(0,.loop (subC [true,false,true,false,false] (qa Try.f47)))]:=by kernel_rfl
theorem qwM:Try.f47.body=some (qa Try.f47):=by kernel_rfl
abbrev qmA:List Ar:=[.d T24,.d T25]
abbrev qmB:List Ty:=[T4]
noncomputable def qq3(n:Nat)(x:qR qmA):Option (qu qmB):=(qq tab (qe3 n) (qql n) (qa Try.f47) 0 (qbc qmA 54 x)).run (qcR tab [.tmp 4] qmB)
noncomputable def qwN(n:Nat):Ct Try.prog:=⟨47,qmA,.ts qmB,qq3 n,fun _ _ h=>qcV (B:=tab) (cs:=qe3 n) (lo:=qql n) (rs:=[.tmp 4]) Try.func47 (by kernel_rfl) qwM (by kernel_rfl) (by decide) (ql (qwL n) (all_cons (fun st r h=>qum n st r h) qf)) h⟩
noncomputable def qhQ(n:Nat):CL Try.prog:=⟨[],[],0,fun _=>false⟩
noncomputable def qte(n:Nat):Nat→St→PT (DEx×St):=fun _ _=>.fail
abbrev qjz:List It:=[.v (.t 5) T3,.obj (.t 2) false 30 5,.v (.c 0 0) T30,.obj (.t 3) false 30 5,.v (.c 1 0) T30]
abbrev qmp:List (DEx×List It):=[(.exit 0,[]),(.ret,[.v (.t 4) T4])]
noncomputable def qtV(n:Nat)(rec:qc qjz→Option (qk qmp))(s:qc qjz):Option (qk qmp):=(qq tab (qhQ n) (qte n) (subC [true,true,false,true,false,false] (qa Try.f42)) 1 (mkS qjz 59 s)).run (Lp.leaf 59 qjz qmp rec)
noncomputable def qpM(n:Nat):Lp:=⟨59,qjz,qmp,qj n (qtV n)⟩
theorem qAa(n:Nat):qe (qhQ n).c (subC [true,true,false,true,false,false] (qa Try.f42)) 1=[]:=by kernel_rfl
theorem qx2(n:Nat)(st:St)(r:DEx×St)(h:((qpM n).go st).Is r):DA Try.prog false (.loop (subC [true,true,false,true,false,false] (qa Try.f42))) st r:=Lp.ok (L:=qpM n) (B:=tab) (cs:=qhQ n) (lo:=qte n) (id:=0) rfl (ql (qAa n) qf) (fun _ _=>rfl) h
noncomputable def qtW(n:Nat):Nat→St→PT (DEx×St):=fun k st=>match k with
 | 0=>(qpM n).go st
 | _=>.fail
theorem qBg(n:Nat):qe (qhQ n).c (qa Try.f42) 0=[(0,.loop (subC [true,true,false,true,false,false] (qa Try.f42)))]:=by kernel_rfl
theorem qBh:Try.f42.body=some (qa Try.f42):=by kernel_rfl
abbrev qqB:List Ar:=[.d T30,.d T30]
abbrev qqC:List Ty:=[T4]
noncomputable def qun(n:Nat)(x:qR qqB):Option (qu qqC):=(qq tab (qhQ n) (qtW n) (qa Try.f42) 0 (qbc qqB 59 x)).run (qcR tab [.tmp 4] qqC)
noncomputable def qup(n:Nat):Ct Try.prog:=⟨42,qqB,.ts qqC,qun n,fun _ _ h=>qcV (B:=tab) (cs:=qhQ n) (lo:=qtW n) (rs:=[.tmp 4]) Try.func42 (by kernel_rfl) qBh (by kernel_rfl) (by decide) (ql (qBg n) (all_cons (fun st r h=>qx2 n st r h) qf)) h⟩
noncomputable def qdU(n:Nat):CL Try.prog:=⟨[qup n],[],0,fun _=>false⟩
noncomputable def qtf(n:Nat):Nat→St→PT (DEx×St):=fun _ _=>.fail
abbrev qjA:List It:=[.v (.t 0) T25,.v (.t 3) T3,.v (.t 4) T3]
abbrev qmq:List (DEx×List It):=[(.exit 2,[.v (.t 0) T25,.v (.t 3) T3]),(.ret,[.v (.t 2) T4])]
noncomputable def qtX(n:Nat)(rec:qc qjA→Option (qk qmq))(s:qc qjA):Option (qk qmq):=(qq tab (qdU n) (qtf n) (subC [true,false,true,false,false,true,false,false,true,false,false] (qa Try.f43)) 2 (mkS qjA 52 s)).run (Lp.leaf 52 qjA qmq rec)
noncomputable def qpN(n:Nat):Lp:=⟨52,qjA,qmq,qj n (qtX n)⟩
theorem qAb(n:Nat):qe (qdU n).c (subC [true,false,true,false,false,true,false,false,true,false,false] (qa Try.f43)) 2=[]:=by kernel_rfl
theorem qx3(n:Nat)(st:St)(r:DEx×St)(h:((qpN n).go st).Is r):DA Try.prog false (.loop (subC [true,false,true,false,false,true,false,false,true,false,false] (qa Try.f43))) st r:=Lp.ok (L:=qpN n) (B:=tab) (cs:=qdU n) (lo:=qtf n) (id:=1) rfl (ql (qAb n) qf) (fun _ _=>rfl) h
noncomputable def qtg(n:Nat):Nat→St→PT (DEx×St):=fun k st=>match k with
 | 1=>(qpN n).go st
 | _=>.fail
abbrev qjB:List It:=[.v (.t 0) T25,.v (.t 3) T3]
abbrev qmr:List (DEx×List It):=[(.exit 0,[]),(.ret,[.v (.t 2) T4])]
noncomputable def qtY(n:Nat)(rec:qc qjB→Option (qk qmr))(s:qc qjB):Option (qk qmr):=(qq tab (qdU n) (qtg n) (subC [true,false,true,false,false] (qa Try.f43)) 1 (mkS qjB 52 s)).run (Lp.leaf 52 qjB qmr rec)
noncomputable def qpO(n:Nat):Lp:=⟨52,qjB,qmr,qj n (qtY n)⟩
theorem qAc(n:Nat):qe (qdU n).c (subC [true,false,true,false,false] (qa Try.f43)) 1=[(1,.loop (subC [true,false,true,false,false,true,false,false,true,false,false] (qa Try.f43)))]:=by kernel_rfl
theorem qx4(n:Nat)(st:St)(r:DEx×St)(h:((qpO n).go st).Is r):DA Try.prog false (.loop (subC [true,false,true,false,false] (qa Try.f43))) st r:=Lp.ok (L:=qpO n) (B:=tab) (cs:=qdU n) (lo:=qtg n) (id:=0) rfl (ql (qAc n) (all_cons (fun st r h=>qx3 n st r h) qf)) (fun _ _=>rfl) h
noncomputable def qtZ(n:Nat):Nat→St→PT (DEx×St):=fun k st=>match k with
 | 0=>(qpO n).go st
 | _=>.fail
theorem qBi(n:Nat):qe (qdU n).c (qa Try.f43) 0=[(0,.loop (subC [true,false,true,false,false] (qa Try.f43)))]:=by kernel_rfl
theorem qBj:Try.f43.body=some (qa Try.f43):=by kernel_rfl
abbrev qqD:List Ar:=[.d T25]
abbrev qqE:List Ty:=[T4]
noncomputable def quq(n:Nat)(x:qR qqD):Option (qu qqE):=(qq tab (qdU n) (qtZ n) (qa Try.f43) 0 (qbc qqD 52 x)).run (qcR tab [.tmp 2] qqE)
noncomputable def qBk(n:Nat):Ct Try.prog:=⟨43,qqD,.ts qqE,quq n,fun _ _ h=>qcV (B:=tab) (cs:=qdU n) (lo:=qtZ n) (rs:=[.tmp 2]) Try.func43 (by kernel_rfl) qBj (by kernel_rfl) (by decide) (ql (qBi n) (all_cons (fun st r h=>qx4 n st r h) qf)) h⟩
noncomputable def qpP(n:Nat):CL Try.prog:=⟨[qBk n,qzI n,qwN n],[],0,fun _=>false⟩
noncomputable def qt0(n:Nat):Nat→St→PT (DEx×St):=fun _ _=>.fail
theorem qBl(n:Nat):qe (qpP n).c (qa Try.f29) 0=[]:=by kernel_rfl
theorem qBm:Try.f29.body=some (qa Try.f29):=by kernel_rfl
abbrev qqF:List Ar:=[.d T24,.d T25]
abbrev qqG:List Ty:=[T33]
noncomputable def qur(n:Nat)(x:qR qqF):Option (qu qqG):=(qq tab (qpP n) (qt0 n) (qa Try.f29) 0 (qbc qqF 14 x)).run (qcR tab [.tmp 4] qqG)
noncomputable def qBn(n:Nat):Ct Try.prog:=⟨29,qqF,.ts qqG,qur n,fun _ _ h=>qcV (B:=tab) (cs:=qpP n) (lo:=qt0 n) (rs:=[.tmp 4]) Try.func29 (by kernel_rfl) qBm (by kernel_rfl) (by decide) (ql (qBl n) qf) h⟩
end Go.Proofs.Ytcjgodgpaokbnaa
