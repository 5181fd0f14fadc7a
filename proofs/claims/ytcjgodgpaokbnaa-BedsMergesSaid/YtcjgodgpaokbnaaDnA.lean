/- Printed: what functions of the program compute. -/
import Derived.Test.YtcjgodgpaokbnaaDnT
set_option linter.constructorNameAsVariable false
set_option linter.unusedSimpArgs false
set_option linter.unusedVariables false
set_option linter.unusedSectionVars false
namespace Go.Proofs.Ytcjgodgpaokbnaa
open Go Go.Proofs Go.RowKit
set_option maxRecDepth 20000
noncomputable def qpv(n:Nat):CL Try.prog:=⟨[],[],0,fun _=>false⟩
noncomputable def qt2(n:Nat):Nat→St→PT (DEx×St):=fun _ _=>.fail
theorem qBi(n:Nat):qe (qpv n).c (qa Try.f35) 0=[]:=by kernel_rfl
theorem qBj:Try.f35.body=some (qa Try.f35):=by kernel_rfl
abbrev qqg:List Ar:=[.d T3,.d T3,.d T3]
abbrev qqh:List Ty:=[T4]
noncomputable def quO(n:Nat)(x:qQ qqg):Option (qt qqh):=(qo tab (qpv n) (qt2 n) (qa Try.f35) 0 (q8 qqg 15 x)).run (qcK tab [.tmp 6] qqh)
noncomputable def qqi(n:Nat):Ct Try.prog:=⟨35,qqg,.ts qqh,quO n,fun _ _ h=>qcR (B:=tab) (cs:=qpv n) (lo:=qt2 n) (rs:=[.tmp 6]) Try.func35 (by kernel_rfl) qBj (by kernel_rfl) (by decide) (ql (qBi n) qf) h⟩
noncomputable def qg1(n:Nat):CL Try.prog:=⟨[qqi n],[],0,fun _=>false⟩
noncomputable def qsF(n:Nat):Nat→St→PT (DEx×St):=fun _ _=>.fail
abbrev qiU:List It:=[.v (.t 3) T3,.obj (.t 1) false 24 2,.v (.c 0 0) T24]
abbrev qk0:List (DEx×List It):=[(.exit 0,[.obj (.t 1) false 24 2,.v (.c 0 0) T24]),(.ret,[.v (.t 2) T4])]
noncomputable def qtt(n:Nat)(rec:qc qiU→Option (qk qk0))(s:qc qiU):Option (qk qk0):=(qo tab (qg1 n) (qsF n) (subC [true,false,true,false,false] (qa Try.f46)) 1 (mkS qiU 38 s)).run (Lp.leaf 38 qiU qk0 rec)
noncomputable def qoO(n:Nat):Lp:=⟨38,qiU,qk0,qh n (qtt n)⟩
theorem qzO(n:Nat):qe (qg1 n).c (subC [true,false,true,false,false] (qa Try.f46)) 1=[]:=by kernel_rfl
theorem qxH(n:Nat)(st:St)(r:DEx×St)(h:((qoO n).go st).Is r):DA Try.prog false (.loop (subC [true,false,true,false,false] (qa Try.f46))) st r:=Lp.ok (L:=qoO n) (B:=tab) (cs:=qg1 n) (lo:=qsF n) (id:=0) rfl (ql (qzO n) qf) (fun _ _=>rfl) h
noncomputable def qtu(n:Nat):Nat→St→PT (DEx×St):=fun k st=>match k with
 | 0=>(qoO n).go st
 | _=>.fail
theorem qAP(n:Nat):qe (qg1 n).c (qa Try.f46) 0=[(0,.loop (subC [true,false,true,false,false] (qa Try.f46)))]:=by kernel_rfl
theorem qAQ:Try.f46.body=some (qa Try.f46):=by kernel_rfl
abbrev qpw:List Ar:=[.d T24]
abbrev qpx:List Ty:=[T4]
noncomputable def qt3(n:Nat)(x:qQ qpw):Option (qt qpx):=(qo tab (qg1 n) (qtu n) (qa Try.f46) 0 (q8 qpw 38 x)).run (qcK tab [.tmp 2] qpx)
noncomputable def qAR(n:Nat):Ct Try.prog:=⟨46,qpw,.ts qpx,qt3 n,fun _ _ h=>qcR (B:=tab) (cs:=qg1 n) (lo:=qtu n) (rs:=[.tmp 2]) Try.func46 (by kernel_rfl) qAQ (by kernel_rfl) (by decide) (ql (qAP n) (all_cons (fun st r h=>qxH n st r h) qf)) h⟩
noncomputable def qfN(n:Nat):CL Try.prog:=⟨[qqi n],[],0,fun _=>false⟩
noncomputable def qrD(n:Nat):Nat→St→PT (DEx×St):=fun _ _=>.fail
abbrev qhH:List It:=[.v (.t 5) T3,.v (.t 6) T3,.obj (.t 2) false 24 2,.v (.c 0 0) T24,.obj (.t 3) false 30 5,.v (.c 1 0) T30]
abbrev qjX:List (DEx×List It):=[(.exit 0,[]),(.ret,[.v (.t 4) T4])]
noncomputable def qse(n:Nat)(rec:qc qhH→Option (qk qjX))(s:qc qhH):Option (qk qjX):=(qo tab (qfN n) (qrD n) (subC [true,true,true,false,true,false,false] (qa Try.f68)) 1 (mkS qhH 77 s)).run (Lp.leaf 77 qhH qjX rec)
noncomputable def qnr(n:Nat):Lp:=⟨77,qhH,qjX,qh n (qse n)⟩
theorem qyz(n:Nat):qe (qfN n).c (subC [true,true,true,false,true,false,false] (qa Try.f68)) 1=[]:=by kernel_rfl
theorem qww(n:Nat)(st:St)(r:DEx×St)(h:((qnr n).go st).Is r):DA Try.prog false (.loop (subC [true,true,true,false,true,false,false] (qa Try.f68))) st r:=Lp.ok (L:=qnr n) (B:=tab) (cs:=qfN n) (lo:=qrD n) (id:=0) rfl (ql (qyz n) qf) (fun _ _=>rfl) h
noncomputable def qsf(n:Nat):Nat→St→PT (DEx×St):=fun k st=>match k with
 | 0=>(qnr n).go st
 | _=>.fail
theorem qyV(n:Nat):qe (qfN n).c (qa Try.f68) 0=[(0,.loop (subC [true,true,true,false,true,false,false] (qa Try.f68)))]:=by kernel_rfl
theorem qyW:Try.f68.body=some (qa Try.f68):=by kernel_rfl
abbrev qn4:List Ar:=[.d T24,.d T30]
abbrev qn5:List Ty:=[T4]
noncomputable def qsG(n:Nat)(x:qQ qn4):Option (qt qn5):=(qo tab (qfN n) (qsf n) (qa Try.f68) 0 (q8 qn4 77 x)).run (qcK tab [.tmp 4] qn5)
noncomputable def qyX(n:Nat):Ct Try.prog:=⟨68,qn4,.ts qn5,qsG n,fun _ _ h=>qcR (B:=tab) (cs:=qfN n) (lo:=qsf n) (rs:=[.tmp 4]) Try.func68 (by kernel_rfl) qyW (by kernel_rfl) (by decide) (ql (qyV n) (all_cons (fun st r h=>qww n st r h) qf)) h⟩
noncomputable def qfa(n:Nat):CL Try.prog:=⟨[qqi n,qyX n],[],0,fun _=>false⟩
noncomputable def qqj(n:Nat):Nat→St→PT (DEx×St):=fun _ _=>.fail
abbrev qgR:List It:=[.v (.t 1) T25,.v (.t 5) T3,.obj (.t 2) false 24 2,.v (.c 0 0) T24]
abbrev qi3:List (DEx×List It):=[(.exit 0,[.v (.t 1) T25]),(.ret,[.v (.t 4) T4])]
noncomputable def qqW(n:Nat)(rec:qc qgR→Option (qk qi3))(s:qc qgR):Option (qk qi3):=(qo tab (qfa n) (qqj n) (subC [true,false,true,false,false] (qa Try.f47)) 1 (mkS qgR 54 s)).run (Lp.leaf 54 qgR qi3 rec)
noncomputable def ql5(n:Nat):Lp:=⟨54,qgR,qi3,qh n (qqW n)⟩
theorem qw9(n:Nat):qe (qfa n).c (subC [true,false,true,false,false] (qa Try.f47)) 1=[]:=by kernel_rfl
theorem qvk(n:Nat)(st:St)(r:DEx×St)(h:((ql5 n).go st).Is r):DA Try.prog false (.loop (subC [true,false,true,false,false] (qa Try.f47))) st r:=Lp.ok (L:=ql5 n) (B:=tab) (cs:=qfa n) (lo:=qqj n) (id:=0) rfl (ql (qw9 n) qf) (fun _ _=>rfl) h
noncomputable def qqX(n:Nat):Nat→St→PT (DEx×St):=fun k st=>match k with
 | 0=>(ql5 n).go st
 | _=>.fail
theorem qxI(n:Nat):qe (qfa n).c (qa Try.f47) 0=[(0,.loop (subC [true,false,true,false,false] (qa Try.f47)))]:=by kernel_rfl
theorem qxJ:Try.f47.body=some (qa Try.f47):=by kernel_rfl
abbrev qmT:List Ar:=[.d T24,.d T25]
abbrev qmU:List Ty:=[T4]
noncomputable def qrE(n:Nat)(x:qQ qmT):Option (qt qmU):=(qo tab (qfa n) (qqX n) (qa Try.f47) 0 (q8 qmT 54 x)).run (qcK tab [.tmp 4] qmU)
noncomputable def qxK(n:Nat):Ct Try.prog:=⟨47,qmT,.ts qmU,qrE n,fun _ _ h=>qcR (B:=tab) (cs:=qfa n) (lo:=qqX n) (rs:=[.tmp 4]) Try.func47 (by kernel_rfl) qxJ (by kernel_rfl) (by decide) (ql (qxI n) (all_cons (fun st r h=>qvk n st r h) qf)) h⟩
noncomputable def qhX(n:Nat):CL Try.prog:=⟨[],[],0,fun _=>false⟩
noncomputable def qt4(n:Nat):Nat→St→PT (DEx×St):=fun _ _=>.fail
abbrev qjG:List It:=[.v (.t 5) T3,.obj (.t 2) false 30 5,.v (.c 0 0) T30,.obj (.t 3) false 30 5,.v (.c 1 0) T30]
abbrev qmG:List (DEx×List It):=[(.exit 0,[]),(.ret,[.v (.t 4) T4])]
noncomputable def quP(n:Nat)(rec:qc qjG→Option (qk qmG))(s:qc qjG):Option (qk qmG):=(qo tab (qhX n) (qt4 n) (subC [true,true,false,true,false,false] (qa Try.f42)) 1 (mkS qjG 59 s)).run (Lp.leaf 59 qjG qmG rec)
noncomputable def qqk(n:Nat):Lp:=⟨59,qjG,qmG,qh n (quP n)⟩
theorem qBk(n:Nat):qe (qhX n).c (subC [true,true,false,true,false,false] (qa Try.f42)) 1=[]:=by kernel_rfl
theorem qyY(n:Nat)(st:St)(r:DEx×St)(h:((qqk n).go st).Is r):DA Try.prog false (.loop (subC [true,true,false,true,false,false] (qa Try.f42))) st r:=Lp.ok (L:=qqk n) (B:=tab) (cs:=qhX n) (lo:=qt4 n) (id:=0) rfl (ql (qBk n) qf) (fun _ _=>rfl) h
noncomputable def quQ(n:Nat):Nat→St→PT (DEx×St):=fun k st=>match k with
 | 0=>(qqk n).go st
 | _=>.fail
theorem qCs(n:Nat):qe (qhX n).c (qa Try.f42) 0=[(0,.loop (subC [true,true,false,true,false,false] (qa Try.f42)))]:=by kernel_rfl
theorem qCt:Try.f42.body=some (qa Try.f42):=by kernel_rfl
abbrev qrc:List Ar:=[.d T30,.d T30]
abbrev qrd:List Ty:=[T4]
noncomputable def qvl(n:Nat)(x:qQ qrc):Option (qt qrd):=(qo tab (qhX n) (quQ n) (qa Try.f42) 0 (q8 qrc 59 x)).run (qcK tab [.tmp 4] qrd)
noncomputable def qre(n:Nat):Ct Try.prog:=⟨42,qrc,.ts qrd,qvl n,fun _ _ h=>qcR (B:=tab) (cs:=qhX n) (lo:=quQ n) (rs:=[.tmp 4]) Try.func42 (by kernel_rfl) qCt (by kernel_rfl) (by decide) (ql (qCs n) (all_cons (fun st r h=>qyY n st r h) qf)) h⟩
noncomputable def qdZ(n:Nat):CL Try.prog:=⟨[qre n],[],0,fun _=>false⟩
noncomputable def qt5(n:Nat):Nat→St→PT (DEx×St):=fun _ _=>.fail
abbrev qjH:List It:=[.v (.t 0) T25,.v (.t 3) T3,.v (.t 4) T3]
abbrev qmH:List (DEx×List It):=[(.exit 2,[.v (.t 0) T25,.v (.t 3) T3]),(.ret,[.v (.t 2) T4])]
noncomputable def quR(n:Nat)(rec:qc qjH→Option (qk qmH))(s:qc qjH):Option (qk qmH):=(qo tab (qdZ n) (qt5 n) (subC [true,false,true,false,false,true,false,false,true,false,false] (qa Try.f43)) 2 (mkS qjH 52 s)).run (Lp.leaf 52 qjH qmH rec)
noncomputable def qql(n:Nat):Lp:=⟨52,qjH,qmH,qh n (quR n)⟩
theorem qBl(n:Nat):qe (qdZ n).c (subC [true,false,true,false,false,true,false,false,true,false,false] (qa Try.f43)) 2=[]:=by kernel_rfl
theorem qyZ(n:Nat)(st:St)(r:DEx×St)(h:((qql n).go st).Is r):DA Try.prog false (.loop (subC [true,false,true,false,false,true,false,false,true,false,false] (qa Try.f43))) st r:=Lp.ok (L:=qql n) (B:=tab) (cs:=qdZ n) (lo:=qt5 n) (id:=1) rfl (ql (qBl n) qf) (fun _ _=>rfl) h
noncomputable def qt6(n:Nat):Nat→St→PT (DEx×St):=fun k st=>match k with
 | 1=>(qql n).go st
 | _=>.fail
abbrev qjI:List It:=[.v (.t 0) T25,.v (.t 3) T3]
abbrev qmI:List (DEx×List It):=[(.exit 0,[]),(.ret,[.v (.t 2) T4])]
noncomputable def quS(n:Nat)(rec:qc qjI→Option (qk qmI))(s:qc qjI):Option (qk qmI):=(qo tab (qdZ n) (qt6 n) (subC [true,false,true,false,false] (qa Try.f43)) 1 (mkS qjI 52 s)).run (Lp.leaf 52 qjI qmI rec)
noncomputable def qqm(n:Nat):Lp:=⟨52,qjI,qmI,qh n (quS n)⟩
theorem qBm(n:Nat):qe (qdZ n).c (subC [true,false,true,false,false] (qa Try.f43)) 1=[(1,.loop (subC [true,false,true,false,false,true,false,false,true,false,false] (qa Try.f43)))]:=by kernel_rfl
theorem qy0(n:Nat)(st:St)(r:DEx×St)(h:((qqm n).go st).Is r):DA Try.prog false (.loop (subC [true,false,true,false,false] (qa Try.f43))) st r:=Lp.ok (L:=qqm n) (B:=tab) (cs:=qdZ n) (lo:=qt6 n) (id:=0) rfl (ql (qBm n) (all_cons (fun st r h=>qyZ n st r h) qf)) (fun _ _=>rfl) h
noncomputable def quT(n:Nat):Nat→St→PT (DEx×St):=fun k st=>match k with
 | 0=>(qqm n).go st
 | _=>.fail
theorem qCu(n:Nat):qe (qdZ n).c (qa Try.f43) 0=[(0,.loop (subC [true,false,true,false,false] (qa Try.f43)))]:=by kernel_rfl
theorem qCv:Try.f43.body=some (qa Try.f43):=by kernel_rfl
abbrev qrf:List Ar:=[.d T25]
abbrev qrg:List Ty:=[T4]
noncomputable def qvm(n:Nat)(x:qQ qrf):Option (qt qrg):=(qo tab (qdZ n) (quT n) (qa Try.f43) 0 (q8 qrf 52 x)).run (qcK tab [.tmp 2] qrg)
noncomputable def qvn(n:Nat):Ct Try.prog:=⟨43,qrf,.ts qrg,qvm n,fun _ _ h=>qcR (B:=tab) (cs:=qdZ n) (lo:=quT n) (rs:=[.tmp 2]) Try.func43 (by kernel_rfl) qCv (by kernel_rfl) (by decide) (ql (qCu n) (all_cons (fun st r h=>qy0 n st r h) qf)) h⟩
noncomputable def qqn(n:Nat):CL Try.prog:=⟨[qvn n,qAR n,qxK n],[],0,fun _=>false⟩
noncomputable def quU(n:Nat):Nat→St→PT (DEx×St):=fun _ _=>.fail
theorem qCw(n:Nat):qe (qqn n).c (qa Try.f29) 0=[]:=by kernel_rfl
theorem qCx:Try.f29.body=some (qa Try.f29):=by kernel_rfl
abbrev qrh:List Ar:=[.d T24,.d T25]
abbrev qri:List Ty:=[T33]
noncomputable def qvo(n:Nat)(x:qQ qrh):Option (qt qri):=(qo tab (qqn n) (quU n) (qa Try.f29) 0 (q8 qrh 14 x)).run (qcK tab [.tmp 4] qri)
noncomputable def qCy(n:Nat):Ct Try.prog:=⟨29,qrh,.ts qri,qvo n,fun _ _ h=>qcR (B:=tab) (cs:=qqn n) (lo:=quU n) (rs:=[.tmp 4]) Try.func29 (by kernel_rfl) qCx (by kernel_rfl) (by decide) (ql (qCw n) qf) h⟩
noncomputable def qby(n:Nat):CL Try.prog:=⟨[],[],0,fun _=>false⟩
noncomputable def qsg(n:Nat):Nat→St→PT (DEx×St):=fun _ _=>.fail
abbrev qii:List It:=[.v (.t 0) T25,.v (.t 4) T3,.v (.t 5) T3,.v (.t 6) T3,.row (.t 3) false T30 30]
abbrev qkh:List (DEx×List It):=[(.exit 4,[.v (.t 0) T25,.v (.t 4) T3,.v (.t 5) T3,.row (.t 3) false T30 30])]
noncomputable def qsH(n:Nat)(rec:qc qii→Option (qk qkh))(s:qc qii):Option (qk qkh):=(qo tab (qby n) (qsg n) (subC [true,true,false,true,false,false,true,false,false,true,false,false,true,false,false,true,false,false] (qa Try.f34)) 3 (mkS qii 45 s)).run (Lp.leaf 45 qii qkh rec)
noncomputable def qn6(n:Nat):Lp:=⟨45,qii,qkh,qh n (qsH n)⟩
theorem qy1(n:Nat):qe (qby n).c (subC [true,true,false,true,false,false,true,false,false,true,false,false,true,false,false,true,false,false] (qa Try.f34)) 3=[]:=by kernel_rfl
theorem qxa(n:Nat)(st:St)(r:DEx×St)(h:((qn6 n).go st).Is r):DA Try.prog false (.loop (subC [true,true,false,true,false,false,true,false,false,true,false,false,true,false,false,true,false,false] (qa Try.f34))) st r:=Lp.ok (L:=qn6 n) (B:=tab) (cs:=qby n) (lo:=qsg n) (id:=2) rfl (ql (qy1 n) qf) (fun _ _=>rfl) h
noncomputable def qsh(n:Nat):Nat→St→PT (DEx×St):=fun k st=>match k with
 | 2=>(qn6 n).go st
 | _=>.fail
abbrev qij:List It:=[.v (.t 0) T25,.v (.t 4) T3,.v (.t 5) T3,.row (.t 3) false T30 30]
abbrev qki:List (DEx×List It):=[(.exit 2,[.v (.t 0) T25,.v (.t 4) T3,.row (.t 3) false T30 30])]
noncomputable def qsI(n:Nat)(rec:qc qij→Option (qk qki))(s:qc qij):Option (qk qki):=(qo tab (qby n) (qsh n) (subC [true,true,false,true,false,false,true,false,false,true,false,false] (qa Try.f34)) 2 (mkS qij 45 s)).run (Lp.leaf 45 qij qki rec)
noncomputable def qn7(n:Nat):Lp:=⟨45,qij,qki,qh n (qsI n)⟩
theorem qy2(n:Nat):qe (qby n).c (subC [true,true,false,true,false,false,true,false,false,true,false,false] (qa Try.f34)) 2=[(2,.loop (subC [true,true,false,true,false,false,true,false,false,true,false,false,true,false,false,true,false,false] (qa Try.f34)))]:=by kernel_rfl
theorem qxb(n:Nat)(st:St)(r:DEx×St)(h:((qn7 n).go st).Is r):DA Try.prog false (.loop (subC [true,true,false,true,false,false,true,false,false,true,false,false] (qa Try.f34))) st r:=Lp.ok (L:=qn7 n) (B:=tab) (cs:=qby n) (lo:=qsh n) (id:=1) rfl (ql (qy2 n) (all_cons (fun st r h=>qxa n st r h) qf)) (fun _ _=>rfl) h
noncomputable def qsi(n:Nat):Nat→St→PT (DEx×St):=fun k st=>match k with
 | 1=>(qn7 n).go st
 | _=>.fail
abbrev qik:List It:=[.v (.t 0) T25,.v (.t 4) T3,.row (.t 3) false T30 30]
abbrev qkj:List (DEx×List It):=[(.exit 0,[.row (.t 3) false T30 30])]
noncomputable def qsJ(n:Nat)(rec:qc qik→Option (qk qkj))(s:qc qik):Option (qk qkj):=(qo tab (qby n) (qsi n) (subC [true,true,false,true,false,false] (qa Try.f34)) 1 (mkS qik 45 s)).run (Lp.leaf 45 qik qkj rec)
noncomputable def qn8(n:Nat):Lp:=⟨45,qik,qkj,qh n (qsJ n)⟩
theorem qy3(n:Nat):qe (qby n).c (subC [true,true,false,true,false,false] (qa Try.f34)) 1=[(1,.loop (subC [true,true,false,true,false,false,true,false,false,true,false,false] (qa Try.f34)))]:=by kernel_rfl
theorem qxc(n:Nat)(st:St)(r:DEx×St)(h:((qn8 n).go st).Is r):DA Try.prog false (.loop (subC [true,true,false,true,false,false] (qa Try.f34))) st r:=Lp.ok (L:=qn8 n) (B:=tab) (cs:=qby n) (lo:=qsi n) (id:=0) rfl (ql (qy3 n) (all_cons (fun st r h=>qxb n st r h) qf)) (fun _ _=>rfl) h
noncomputable def qsK(n:Nat):Nat→St→PT (DEx×St):=fun k st=>match k with
 | 0=>(qn8 n).go st
 | _=>.fail
theorem qzP(n:Nat):qe (qby n).c (qa Try.f34) 0=[(0,.loop (subC [true,true,false,true,false,false] (qa Try.f34)))]:=by kernel_rfl
theorem qzQ:Try.f34.body=some (qa Try.f34):=by kernel_rfl
abbrev qoP:List Ar:=[.d T25]
abbrev qoQ:List Ty:=[T25]
noncomputable def qtv(n:Nat)(x:qQ qoP):Option (qt qoQ):=(qo tab (qby n) (qsK n) (qa Try.f34) 0 (q8 qoP 45 x)).run (qcK tab [.tmp 2] qoQ)
noncomputable def qzR(n:Nat):Ct Try.prog:=⟨34,qoP,.ts qoQ,qtv n,fun _ _ h=>qcR (B:=tab) (cs:=qby n) (lo:=qsK n) (rs:=[.tmp 2]) Try.func34 (by kernel_rfl) qzQ (by kernel_rfl) (by decide) (ql (qzP n) (all_cons (fun st r h=>qxc n st r h) qf)) h⟩
end Go.Proofs.Ytcjgodgpaokbnaa
