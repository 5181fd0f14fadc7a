/- Printed: what functions of the program compute. -/
import Derived.Test.YtcjgodgpaokbnaaNe
set_option linter.constructorNameAsVariable false
set_option linter.unusedSimpArgs false
set_option linter.unusedVariables false
set_option linter.unusedSectionVars false
namespace Go.Proofs.Ytcjgodgpaokbnaa
open Go Go.Proofs Go.RowKit
set_option maxRecDepth 20000
noncomputable def qvV(n:Nat):CL Try.prog:=⟨[],[qsL n],1,fun _=>false⟩
noncomputable def qAE(n:Nat):Nat→St→PT (DEx×St):=fun _ _=>.fail
theorem qG0(n:Nat):qe (qvV n).c (qa Try.f41) 0=[]:=by kernel_rfl
theorem qG1:Try.f41.body=some (qa Try.f41):=by kernel_rfl
abbrev qw6:List Ar:=[.d T30]
abbrev qw7:List Ty:=[T30]
noncomputable def qBY(n:Nat)(x:qR qw6):Option (qu qw7):=(qq tab (qvV n) (qAE n) (qa Try.f41) 0 (qbc qw6 8 x)).run (qcR tab [.cell 2 30] qw7)
noncomputable def qG2(n:Nat):Ct Try.prog:=⟨41,qw6,.ts qw7,qBY n,fun _ _ h=>qcV (B:=tab) (cs:=qvV n) (lo:=qAE n) (rs:=[.cell 2 30]) Try.func41 (by kernel_rfl) qG1 (by kernel_rfl) (by decide) (ql (qG0 n) qf) h⟩
noncomputable def qjp(n:Nat):CL Try.prog:=⟨[qCO n,qCG n,qG2 n],[qtH n],1,fun _=>false⟩
noncomputable def qAF(n:Nat):Nat→St→PT (DEx×St):=fun _ _=>.fail
abbrev qq7:List It:=[.v (.t 1) T25,.v (.t 2) T25,.v (.t 16) T83,.v (.t 17) T3,.v (.t 18) T3,.obj (.t 3) false 24 2,.v (.c 0 0) T24]
abbrev qtt:List (DEx×List It):=[(.exit 0,[.v (.t 1) T25,.v (.t 2) T25]),(.ret,[.v (.t 6) T25,.v (.t 7) T33])]
noncomputable def qBZ(n:Nat)(rec:qc qq7→Option (qk qtt))(s:qc qq7):Option (qk qtt):=(qq tab (qjp n) (qAF n) (subC [true,false,true,false,false] (qa Try.f22)) 1 (mkS qq7 54 s)).run (Lp.leaf 54 qq7 qtt rec)
noncomputable def qw8(n:Nat):Lp:=⟨54,qq7,qtt,qj n (qBZ n)⟩
theorem qG3(n:Nat):qe (qjp n).c (subC [true,false,true,false,false] (qa Try.f22)) 1=[]:=by kernel_rfl
theorem qEF(n:Nat)(st:St)(r:DEx×St)(h:((qw8 n).go st).Is r):DA Try.prog false (.loop (subC [true,false,true,false,false] (qa Try.f22))) st r:=Lp.ok (L:=qw8 n) (B:=tab) (cs:=qjp n) (lo:=qAF n) (id:=0) rfl (ql (qG3 n) qf) (fun _ _=>rfl) h
noncomputable def qAG(n:Nat):Nat→St→PT (DEx×St):=fun _ _=>.fail
abbrev qq8:List It:=[.v (.t 41) T3,.v (.t 42) T3,.row (.t 11) false T30 30,.al (.t 40) 0]
abbrev qtu:List (DEx×List It):=[(.exit 3,[.row (.t 11) false T30 30])]
noncomputable def qB0(n:Nat)(rec:qc qq8→Option (qk qtu))(s:qc qq8):Option (qk qtu):=(qq tab (qjp n) (qAG n) (subC [true,true,true,true,false,true,false,false] (qa Try.f22)) 2 (mkS qq8 54 s)).run (Lp.leaf 54 qq8 qtu rec)
noncomputable def qw9(n:Nat):Lp:=⟨54,qq8,qtu,qj n (qB0 n)⟩
theorem qG4(n:Nat):qe (qjp n).c (subC [true,true,true,true,false,true,false,false] (qa Try.f22)) 2=[]:=by kernel_rfl
theorem qEG(n:Nat)(st:St)(r:DEx×St)(h:((qw9 n).go st).Is r):DA Try.prog false (.loop (subC [true,true,true,true,false,true,false,false] (qa Try.f22))) st r:=Lp.ok (L:=qw9 n) (B:=tab) (cs:=qjp n) (lo:=qAG n) (id:=1) rfl (ql (qG4 n) qf) (fun _ _=>rfl) h
noncomputable def qB1(n:Nat):Nat→St→PT (DEx×St):=fun k st=>match k with
 | 0=>(qw8 n).go st
 | 1=>(qw9 n).go st
 | _=>.fail
theorem qIw(n:Nat):qe (qjp n).c (qa Try.f22) 0=[(0,.loop (subC [true,false,true,false,false] (qa Try.f22))),(1,.loop (subC [true,true,true,true,false,true,false,false] (qa Try.f22)))]:=by kernel_rfl
theorem qIx:Try.f22.body=some (qa Try.f22):=by kernel_rfl
abbrev qyE:List Ar:=[.d T24,.d T25,.d T25]
abbrev qyF:List Ty:=[T25,T33]
noncomputable def qDd(n:Nat)(x:qR qyE):Option (qu qyF):=(qq tab (qjp n) (qB1 n) (qa Try.f22) 0 (qbc qyE 54 x)).run (qcR tab [.tmp 6,.tmp 7] qyF)
noncomputable def qIy(n:Nat):Ct Try.prog:=⟨22,qyE,.ts qyF,qDd n,fun _ _ h=>qcV (B:=tab) (cs:=qjp n) (lo:=qB1 n) (rs:=[.tmp 6,.tmp 7]) Try.func22 (by kernel_rfl) qIx (by kernel_rfl) (by decide) (ql (qIw n) (all_cons (fun st r h=>qEF n st r h) (all_cons (fun st r h=>qEG n st r h) qf))) h⟩
noncomputable def qle(n:Nat):CL Try.prog:=⟨[qBt n,qBB n,qzx n,qAu n,qsH n,qyM n,qIy n,qwk n],[],0,fun _=>false⟩
noncomputable def qqd(n:Nat):Nat→St→PT (DEx×St):=fun _ _=>.fail
theorem qwG(n:Nat):qe (qle n).c (qa Try.f6) 0=[]:=by kernel_rfl
theorem qwH:Try.f6.body=some (qa Try.f6):=by kernel_rfl
abbrev qgV:List Ar:=[.d T24,.d T25,.d T32]
abbrev qmc:List Ty:=[T4]
noncomputable def qqq(n:Nat)(x:qR qgV):Option (qu qmc):=(qq tab (qle n) (qqd n) (qa Try.f6) 0 (qbc qgV 161 x)).run (qcR tab [.tmp 6] qmc)
noncomputable def qqr(n:Nat):Ct Try.prog:=⟨6,qgV,.ts qmc,qqq n,fun _ _ h=>qcV (B:=tab) (cs:=qle n) (lo:=qqd n) (rs:=[.tmp 6]) Try.func6 (by kernel_rfl) qwH (by kernel_rfl) (by decide) (ql (qwG n) qf) h⟩
end Go.Proofs.Ytcjgodgpaokbnaa
