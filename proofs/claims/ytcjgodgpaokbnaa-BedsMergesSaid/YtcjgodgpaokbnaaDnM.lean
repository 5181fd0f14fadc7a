/- Printed: what functions of the program compute. -/
import Derived.Test.YtcjgodgpaokbnaaNe
set_option linter.constructorNameAsVariable false
set_option linter.unusedSimpArgs false
set_option linter.unusedVariables false
set_option linter.unusedSectionVars false
namespace Go.Proofs.Ytcjgodgpaokbnaa
open Go Go.Proofs Go.RowKit
set_option maxRecDepth 20000
noncomputable def qwV(n:Nat):CL Try.prog:=⟨[],[qtz n],1,fun _=>false⟩
noncomputable def qBO(n:Nat):Nat→St→PT (DEx×St):=fun _ _=>.fail
theorem qIy(n:Nat):qe (qwV n).c (qa Try.f41) 0=[]:=by kernel_rfl
theorem qIz:Try.f41.body=some (qa Try.f41):=by kernel_rfl
abbrev qx4:List Ar:=[.d T30]
abbrev qx5:List Ty:=[T30]
noncomputable def qDe(n:Nat)(x:qQ qx4):Option (qt qx5):=(qo tab (qwV n) (qBO n) (qa Try.f41) 0 (q8 qx4 8 x)).run (qcK tab [.cell 2 30] qx5)
noncomputable def qIA(n:Nat):Ct Try.prog:=⟨41,qx4,.ts qx5,qDe n,fun _ _ h=>qcR (B:=tab) (cs:=qwV n) (lo:=qBO n) (rs:=[.cell 2 30]) Try.func41 (by kernel_rfl) qIz (by kernel_rfl) (by decide) (ql (qIy n) qf) h⟩
noncomputable def qjw(n:Nat):CL Try.prog:=⟨[qD8 n,qD0 n,qIA n],[quz n],1,fun _=>false⟩
noncomputable def qBP(n:Nat):Nat→St→PT (DEx×St):=fun _ _=>.fail
abbrev qrI:List It:=[.v (.t 1) T25,.v (.t 2) T25,.v (.t 16) T83,.v (.t 17) T3,.v (.t 18) T3,.obj (.t 3) false 24 2,.v (.c 0 0) T24]
abbrev quk:List (DEx×List It):=[(.exit 0,[.v (.t 1) T25,.v (.t 2) T25]),(.ret,[.v (.t 6) T25,.v (.t 7) T33])]
noncomputable def qDf(n:Nat)(rec:qc qrI→Option (qk quk))(s:qc qrI):Option (qk quk):=(qo tab (qjw n) (qBP n) (subC [true,false,true,false,false] (qa Try.f22)) 1 (mkS qrI 54 s)).run (Lp.leaf 54 qrI quk rec)
noncomputable def qx6(n:Nat):Lp:=⟨54,qrI,quk,qh n (qDf n)⟩
theorem qIB(n:Nat):qe (qjw n).c (subC [true,false,true,false,false] (qa Try.f22)) 1=[]:=by kernel_rfl
theorem qF1(n:Nat)(st:St)(r:DEx×St)(h:((qx6 n).go st).Is r):DA Try.prog false (.loop (subC [true,false,true,false,false] (qa Try.f22))) st r:=Lp.ok (L:=qx6 n) (B:=tab) (cs:=qjw n) (lo:=qBP n) (id:=0) rfl (ql (qIB n) qf) (fun _ _=>rfl) h
noncomputable def qBQ(n:Nat):Nat→St→PT (DEx×St):=fun _ _=>.fail
abbrev qrJ:List It:=[.v (.t 41) T3,.v (.t 42) T3,.row (.t 11) false T30 30,.al (.t 40) 0]
abbrev qul:List (DEx×List It):=[(.exit 3,[.row (.t 11) false T30 30])]
noncomputable def qDg(n:Nat)(rec:qc qrJ→Option (qk qul))(s:qc qrJ):Option (qk qul):=(qo tab (qjw n) (qBQ n) (subC [true,true,true,true,false,true,false,false] (qa Try.f22)) 2 (mkS qrJ 54 s)).run (Lp.leaf 54 qrJ qul rec)
noncomputable def qx7(n:Nat):Lp:=⟨54,qrJ,qul,qh n (qDg n)⟩
theorem qIC(n:Nat):qe (qjw n).c (subC [true,true,true,true,false,true,false,false] (qa Try.f22)) 2=[]:=by kernel_rfl
theorem qF2(n:Nat)(st:St)(r:DEx×St)(h:((qx7 n).go st).Is r):DA Try.prog false (.loop (subC [true,true,true,true,false,true,false,false] (qa Try.f22))) st r:=Lp.ok (L:=qx7 n) (B:=tab) (cs:=qjw n) (lo:=qBQ n) (id:=1) rfl (ql (qIC n) qf) (fun _ _=>rfl) h
noncomputable def qDh(n:Nat):Nat→St→PT (DEx×St):=fun k st=>match k with
 | 0=>(qx6 n).go st
 | 1=>(qx7 n).go st
 | _=>.fail
theorem qJ3(n:Nat):qe (qjw n).c (qa Try.f22) 0=[(0,.loop (subC [true,false,true,false,false] (qa Try.f22))),(1,.loop (subC [true,true,true,true,false,true,false,false] (qa Try.f22)))]:=by kernel_rfl
theorem qJ4:Try.f22.body=some (qa Try.f22):=by kernel_rfl
abbrev qzM:List Ar:=[.d T24,.d T25,.d T25]
abbrev qzN:List Ty:=[T25,T33]
noncomputable def qEs(n:Nat)(x:qQ qzM):Option (qt qzN):=(qo tab (qjw n) (qDh n) (qa Try.f22) 0 (q8 qzM 54 x)).run (qcK tab [.tmp 6,.tmp 7] qzN)
noncomputable def qJ5(n:Nat):Ct Try.prog:=⟨22,qzM,.ts qzN,qEs n,fun _ _ h=>qcR (B:=tab) (cs:=qjw n) (lo:=qDh n) (rs:=[.tmp 6,.tmp 7]) Try.func22 (by kernel_rfl) qJ4 (by kernel_rfl) (by decide) (ql (qJ3 n) (all_cons (fun st r h=>qF1 n st r h) (all_cons (fun st r h=>qF2 n st r h) qf))) h⟩
noncomputable def qm9(n:Nat):CL Try.prog:=⟨[qCO n,qJ5 n,qxl n,qD3 n,qzj n,qDm n,qCE n],[qCR n],1,fun _=>false⟩
noncomputable def qrK(n:Nat):Nat→St→PT (DEx×St):=fun _ _=>.fail
theorem qyD(n:Nat):qe (qm9 n).c (qa Try.f7) 0=[]:=by kernel_rfl
theorem qyE:Try.f7.body=some (qa Try.f7):=by kernel_rfl
abbrev qhW:List Ar:=[.d T24,.d T25,.d T25]
abbrev qnN:List Ty:=[T4]
noncomputable def qsu(n:Nat)(x:qQ qhW):Option (qt qnN):=(qo tab (qm9 n) (qrK n) (qa Try.f7) 0 (q8 qhW 64 x)).run (qcK tab [.tmp 6] qnN)
noncomputable def qsv(n:Nat):Ct Try.prog:=⟨7,qhW,.ts qnN,qsu n,fun _ _ h=>qcR (B:=tab) (cs:=qm9 n) (lo:=qrK n) (rs:=[.tmp 6]) Try.func7 (by kernel_rfl) qyE (by kernel_rfl) (by decide) (ql (qyD n) qf) h⟩
end Go.Proofs.Ytcjgodgpaokbnaa
