/- Printed: what functions of the program compute. -/
import Derived.Test.YtbdockhccdkdiaaGreatNh
import Derived.Test.YtbdockhccdkdiaaGreatDnZ
set_option linter.constructorNameAsVariable false
set_option linter.unusedSimpArgs false
set_option linter.unusedVariables false
set_option linter.unusedSectionVars false
namespace Go.Proofs.YtbdockhccdkdiaaGreat
open Go Go.Proofs Go.RowKit
set_option maxRecDepth 20000
noncomputable section
section
def qgM(n:Nat):CL Tryz.prog:=⟨[qh3 n],[],0,nof⟩
def qgN(n:Nat):LK Tryz.prog false:=mkL tab (qgM n) [] Tryz.f10 [true,false,true,false,false] 0 n [.v (.t 0) T22,.v (.t 3) T3] [(.exit 0,[.v (.t 0) T22]),(.ret,[.v (.t 2) T4])] (by kernel_rfl)
def qeS(n:Nat):Ct Tryz.prog:=mkC tab (qgM n) [qgN n] Tryz.func10 [.d T22] [T4] (by kernel_rfl)
def qka(n:Nat):CL Tryz.prog:=⟨[qeS n,qh2 n],[],0,nof⟩
def qeT(n:Nat):Ct Tryz.prog:=mkC tab (qka n) [] Tryz.func6 [.d T22,.d T3,.d T4] [T28] (by kernel_rfl)
def qf5(n:Nat):CL Tryz.prog:=⟨[],[],0,nof⟩
def qlX(n:Nat):LK Tryz.prog false:=mkL tab (qf5 n) [] Tryz.f9 [true,true,false,false,false,true,false,true,false,false] 1 n [.v (.t 1) T3,.v (.t 5) T23,.v (.t 7) T3,.row (.t 6) false T3 3] [(.exit 2,[.v (.t 1) T3,.v (.t 5) T23,.row (.t 6) false T3 3])] (by kernel_rfl)
def qlY(n:Nat):LK Tryz.prog false:=mkL tab (qf5 n) [qlX n] Tryz.f9 [true,true,false,false] 0 n [.v (.t 1) T3,.v (.t 5) T23] [(.ret,[.v (.t 4) T4])] (by kernel_rfl)
def qmz(n:Nat):Ct Tryz.prog:=mkC tab (qf5 n) [qlY n] Tryz.func9 [.d T23,.d T3] [T4] (by kernel_rfl)
def qhs(n:Nat):CL Tryz.prog:=⟨[],[],0,nof⟩
def qht(n:Nat):LK Tryz.prog false:=mkL tab (qhs n) [] Tryz.f18 [true,true,false,true,false,false] 0 n [.v (.t 0) T22,.v (.t 1) T3,.v (.t 6) T3,.row (.t 5) false T25 25] [(.exit 0,[.row (.t 5) false T25 25])] (by kernel_rfl)
def qhH(n:Nat):Ct Tryz.prog:=mkC tab (qhs n) [qht n] Tryz.func18 [.d T22,.d T3] [T22] (by kernel_rfl)
def qeE(n:Nat):CL Tryz.prog:=⟨[qeT n,qgq n,qjK n,qmz n,qeS n],[],0,fun i=>Nat.beq i 105||Nat.beq i 138⟩
def qjM(n:Nat):Nat→St→PT (DEx×St):=fun _ _=>.fail
abbrev qck:List It:=[.v (.t 0) T22,.v (.t 5) T3,.obj (.t 3) false 27 5,.v (.c 0 0) T27]
abbrev qdg:List (DEx×List It):=[(.exit 0,[.v (.t 0) T22,.obj (.t 3) false 27 5,.v (.c 0 0) T27]),(.ret,[.v (.t 4) T4])]
def qkb(n:Nat)(rec:qf qck→Option (qJ qdg))(s:qf qck):Option (qJ qdg):=(qcG tab (qeE n) (qjM n) (subC [true,true,false,true,false,false] (qq Tryz.f3)) 1 (mkS qck 164 s)).run (Lp.leaf 164 qck qdg rec)
def qkc(n:Nat):Lp:=⟨164,qck,qdg,qn n (qkb n)⟩
def qhR(n:Nat):Nat→St→PT (DEx×St):=fun _ _=>.fail
abbrev qdm:List It:=[.v (.t 0) T22,.v (.t 6) T4,.v (.t 7) T4,.v (.t 105) T4,.obj (.t 3) false 27 5,.v (.c 0 0) T27]
abbrev qdn:List (DEx×List It):=[(.normal,[.v (.t 0) T22,.v (.t 6) T4,.v (.t 7) T4,.obj (.t 3) false 27 5,.v (.c 0 0) T27]),(.ret,[.v (.t 4) T4])]
def qiI(n:Nat)(x:qf qdm):Option (qJ qdn):=(qnV tab (qeE n) (qhR n) (.tmp 105) (subC [true,true,true,true,true,true,false,true,false] (qq Tryz.f3)) (subC [true,true,true,true,true,true,false,true,true] (qq Tryz.f3)) 1 (mkS qdm 164 x)).run (fun r=>qe9 164 qdn r.1 r.2)
def qif(n:Nat):Lp:=⟨164,qdm,qdn,qiI n⟩
def qhS(n:Nat):Nat→St→PT (DEx×St):=fun _ _=>.fail
abbrev qdo:List It:=[.v (.t 6) T4,.v (.t 7) T4,.v (.t 13) T22,.v (.t 138) T4,.obj (.t 3) false 27 5,.v (.c 0 0) T27]
abbrev qdp:List (DEx×List It):=[(.normal,[]),(.ret,[.v (.t 4) T4])]
def qiJ(n:Nat)(x:qf qdo):Option (qJ qdp):=(qnV tab (qeE n) (qhS n) (.tmp 138) (subC [true,true,true,true,true,true,true,true,false,true,false] (qq Tryz.f3)) (subC [true,true,true,true,true,true,true,true,false,true,true] (qq Tryz.f3)) 1 (mkS qdo 164 x)).run (fun r=>qe9 164 qdp r.1 r.2)
def qig(n:Nat):Lp:=⟨164,qdo,qdp,qiJ n⟩
def qq4(n:Nat):Nat→St→PT (DEx×St):=fun k st=>(match Nat.beq k 1000105 with
 | true=>(qif n).go st
 | false=>(match Nat.beq k 1000138 with
 | true=>(qig n).go st
 | false=>(match k with
 | 0=>(qkc n).go st
 | _=>.fail)))
def qu(n:Nat):CL Tryz.prog:=⟨[qeT n,qgq n,qjK n,qmI n,qlU n,qiM n,qhH n],[],0,fun i=>Nat.beq i 68⟩
def qeJ(n:Nat):Nat→St→PT (DEx×St):=fun _ _=>.fail
abbrev qc4:List It:=[.v (.t 0) T22,.v (.t 2) T3,.v (.t 7) T3,.v (.t 68) T4,.obj (.t 4) false 27 5,.v (.c 0 0) T27]
abbrev qc5:List (DEx×List It):=[(.normal,[.v (.t 0) T22,.v (.t 2) T3,.v (.t 7) T3,.obj (.t 4) false 27 5,.v (.c 0 0) T27]),(.ret,[.v (.t 6) T4])]
def qfE(n:Nat)(x:qf qc4):Option (qJ qc5):=(qnV tab (qu n) (qeJ n) (.tmp 68) (subC [true,true,true,true,false,true,false] (qq Tryz.f5)) (subC [true,true,true,true,false,true,true] (qq Tryz.f5)) 0 (mkS qc4 250 x)).run (fun r=>qe9 250 qc5 r.1 r.2)
def qc6(n:Nat):Lp:=⟨250,qc4,qc5,qfE n⟩
theorem qhT(n:Nat):qnh (qu n).c (subC [true,true,true,true,false,true,false] (qq Tryz.f5)) (subC [true,true,true,true,false,true,true] (qq Tryz.f5)) 0=[]:=by kernel_rfl
theorem qhm(n:Nat)(st:St)(r:DEx×St)(h:((qc6 n).go st).Is r):DA Tryz.prog false (.cond (.tmp 68) (subC [true,true,true,true,false,true,false] (qq Tryz.f5)) (subC [true,true,true,true,false,true,true] (qq Tryz.f5))) st r:=Lp.okC (L:=qc6 n) (B:=tab) (cs:=qu n) (lo:=qeJ n) (n:=0) (qxi (qhT n) qgD) (fun _=>rfl) h
def qgb(n:Nat):Nat→St→PT (DEx×St):=fun _ _=>.fail
abbrev qb6:List It:=[.v (.t 0) T22,.v (.t 2) T3,.v (.t 7) T3,.v (.t 12) T4,.v (.t 13) T3,.obj (.t 4) false 27 5,.v (.c 0 0) T27]
abbrev qcX:List (DEx×List It):=[(.exit 0,[.v (.t 0) T22,.v (.t 2) T3,.v (.t 12) T4,.obj (.t 4) false 27 5,.v (.c 0 0) T27])]
def qgv(n:Nat)(rec:qf qb6→Option (qJ qcX))(s:qf qb6):Option (qJ qcX):=(qcG tab (qu n) (qgb n) (subC [true,true,true,true,true,true,false,true,false,false] (qq Tryz.f5)) 1 (mkS qb6 250 s)).run (Lp.leaf 250 qb6 qcX rec)
def qer(n:Nat):Lp:=⟨250,qb6,qcX,qn n (qgv n)⟩
theorem qjN(n:Nat):qT (qu n).c (subC [true,true,true,true,true,true,false,true,false,false] (qq Tryz.f5)) 1=[]:=by kernel_rfl
theorem qiK(n:Nat)(st:St)(r:DEx×St)(h:((qer n).go st).Is r):DA Tryz.prog false (.loop (subC [true,true,true,true,true,true,false,true,false,false] (qq Tryz.f5))) st r:=Lp.ok (L:=qer n) (B:=tab) (cs:=qu n) (lo:=qgb n) (id:=0) rfl (qj4 (qjN n) qgD) (fun _ _=>rfl) h
def qgc(n:Nat):Nat→St→PT (DEx×St):=fun _ _=>.fail
abbrev qb7:List It:=[.v (.t 0) T22,.v (.t 2) T3,.v (.t 17) T3,.v (.t 18) T23,.v (.t 20) T3,.v (.t 23) T4,.v (.t 24) T3,.v (.t 25) T3,.obj (.t 4) false 27 5,.v (.c 0 0) T27]
abbrev qcY:List (DEx×List It):=[(.exit 2,[.v (.t 0) T22,.v (.t 2) T3,.v (.t 17) T3,.v (.t 18) T23,.v (.t 20) T3,.v (.t 23) T4,.v (.t 24) T3,.obj (.t 4) false 27 5,.v (.c 0 0) T27]),(.ret,[.v (.t 6) T4])]
def qgw(n:Nat)(rec:qf qb7→Option (qJ qcY))(s:qf qb7):Option (qJ qcY):=(qcG tab (qu n) (qgc n) (subC [true,true,true,true,true,true,true,true,true,true,true,true,true,true,true,true,false,true,false,false] (qq Tryz.f5)) 2 (mkS qb7 250 s)).run (Lp.leaf 250 qb7 qcY rec)
def qes(n:Nat):Lp:=⟨250,qb7,qcY,qn n (qgw n)⟩
theorem qjO(n:Nat):qT (qu n).c (subC [true,true,true,true,true,true,true,true,true,true,true,true,true,true,true,true,false,true,false,false] (qq Tryz.f5)) 2=[]:=by kernel_rfl
theorem qiL(n:Nat)(st:St)(r:DEx×St)(h:((qes n).go st).Is r):DA Tryz.prog false (.loop (subC [true,true,true,true,true,true,true,true,true,true,true,true,true,true,true,true,false,true,false,false] (qq Tryz.f5))) st r:=Lp.ok (L:=qes n) (B:=tab) (cs:=qu n) (lo:=qgc n) (id:=1) rfl (qj4 (qjO n) qgD) (fun _ _=>rfl) h
def qgx(n:Nat):Nat→St→PT (DEx×St):=fun k st=>(match Nat.beq k 1000068 with
 | true=>(qc6 n).go st
 | false=>(match k with
 | 0=>(qer n).go st
 | 1=>(qes n).go st
 | _=>.fail))
theorem qkd(n:Nat):qT (qu n).c (qq Tryz.f5) 0=[(1000068,.cond (.tmp 68) (subC [true,true,true,true,false,true,false] (qq Tryz.f5)) (subC [true,true,true,true,false,true,true] (qq Tryz.f5))),(0,.loop (subC [true,true,true,true,true,true,false,true,false,false] (qq Tryz.f5))),(1,.loop (subC [true,true,true,true,true,true,true,true,true,true,true,true,true,true,true,true,false,true,false,false] (qq Tryz.f5)))]:=by kernel_rfl
theorem qke:Tryz.f5.body=some (qq Tryz.f5):=by kernel_rfl
abbrev qeF:List Ar:=[.d T22,.d T27,.d T3]
abbrev qeG:List Ty:=[T4]
def qgO(n:Nat)(x:qdR qeF):Option (qw qeG):=(qcG tab (qu n) (qgx n) (qq Tryz.f5) 0 (qfP qeF 250 x)).run (qtv tab [.tmp 6] qeG)
def qdh(n:Nat):Ct Tryz.prog:=⟨5,qeF,.ts qeG,qgO n,fun _ _ h=>qws (B:=tab) (cs:=qu n) (lo:=qgx n) (rs:=[.tmp 6]) Tryz.func5 (by kernel_rfl) qke (by kernel_rfl) (by decide) (qj4 (qkd n) (all_cons (fun st r h=>qhm n st r h) (all_cons (fun st r h=>qiK n st r h) (all_cons (fun st r h=>qiL n st r h) qgD)))) h⟩
end
end
end Go.Proofs.YtbdockhccdkdiaaGreat
