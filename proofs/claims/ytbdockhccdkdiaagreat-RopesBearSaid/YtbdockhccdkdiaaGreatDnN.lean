/- Printed: what functions of the program compute. -/
import Derived.Test.YtbdockhccdkdiaaGreatNh
import Derived.Test.YtbdockhccdkdiaaGreatDnZ
set_option linter.constructorNameAsVariable false
set_option linter.unusedSimpArgs false
set_option linter.unusedVariables false
set_option linter.unusedSectionVars false
namespace Go.Proofs.YtbdockhccdkdiaaGreat
open Go Go.Proofs Go.RowKit
set_option maxRecDepth 20000
noncomputable section
section
def qf3(n:Nat):CL Tryz.prog:=⟨[qg9 n],[],0,nof⟩
def qf4(n:Nat):LK Tryz.prog false:=mkL tab (qf3 n) [] Tryz.f10 [true,false,true,false,false] 0 n [.v (.t 0) T22,.v (.t 3) T3] [(.exit 0,[.v (.t 0) T22]),(.ret,[.v (.t 2) T4])] (by kernel_rfl)
def qen(n:Nat):Ct Tryz.prog:=mkC tab (qf3 n) [qf4 n] Tryz.func10 [.d T22] [T4] (by kernel_rfl)
def qiV(n:Nat):CL Tryz.prog:=⟨[qen n,qg8 n],[],0,nof⟩
def qgr(n:Nat):Ct Tryz.prog:=mkC tab (qiV n) [] Tryz.func6 [.d T22,.d T3,.d T4] [T28] (by kernel_rfl)
def qfu(n:Nat):CL Tryz.prog:=⟨[],[],0,nof⟩
def qhg(n:Nat):LK Tryz.prog false:=mkL tab (qfu n) [] Tryz.f9 [true,true,false,false,false,true,false,true,false,false] 1 n [.v (.t 1) T3,.v (.t 5) T23,.v (.t 7) T3,.row (.t 6) false T3 3] [(.exit 2,[.v (.t 1) T3,.v (.t 5) T23,.row (.t 6) false T3 3])] (by kernel_rfl)
def qhh(n:Nat):LK Tryz.prog false:=mkL tab (qfu n) [qhg n] Tryz.f9 [true,true,false,false] 0 n [.v (.t 1) T3,.v (.t 5) T23] [(.ret,[.v (.t 4) T4])] (by kernel_rfl)
def qhE(n:Nat):Ct Tryz.prog:=mkC tab (qfu n) [qhh n] Tryz.func9 [.d T23,.d T3] [T4] (by kernel_rfl)
def qv(n:Nat):CL Tryz.prog:=⟨[qgr n,qhC n,qlf n,qhE n,qen n],[],0,fun i=>Nat.beq i 105||Nat.beq i 138⟩
def qfN(n:Nat):Nat→St→PT (DEx×St):=fun _ _=>.fail
abbrev qcd:List It:=[.v (.t 0) T22,.v (.t 5) T3,.obj (.t 3) false 27 5,.v (.c 0 0) T27]
abbrev qcX:List (DEx×List It):=[(.exit 0,[.v (.t 0) T22,.obj (.t 3) false 27 5,.v (.c 0 0) T27]),(.ret,[.v (.t 4) T4])]
def qf5(n:Nat)(rec:qf qcd→Option (qU qcX))(s:qf qcd):Option (qU qcX):=(qcW tab (qv n) (qfN n) (subC [true,true,false,true,false,false] (qp Tryz.f3)) 1 (mkS qcd 164 s)).run (Lp.leaf 164 qcd qcX rec)
def qed(n:Nat):Lp:=⟨164,qcd,qcX,qN n (qf5 n)⟩
theorem qiW(n:Nat):qW (qv n).c (subC [true,true,false,true,false,false] (qp Tryz.f3)) 1=[]:=by kernel_rfl
theorem qid(n:Nat)(st:St)(r:DEx×St)(h:((qed n).go st).Is r):DA Tryz.prog false (.loop (subC [true,true,false,true,false,false] (qp Tryz.f3))) st r:=Lp.ok (L:=qed n) (B:=tab) (cs:=qv n) (lo:=qfN n) (id:=0) rfl (qjK (qiW n) qfU) (fun _ _=>rfl) h
def qeo(n:Nat):Nat→St→PT (DEx×St):=fun _ _=>.fail
abbrev qc0:List It:=[.v (.t 0) T22,.v (.t 6) T4,.v (.t 7) T4,.v (.t 105) T4,.obj (.t 3) false 27 5,.v (.c 0 0) T27]
abbrev qc1:List (DEx×List It):=[(.normal,[.v (.t 0) T22,.v (.t 6) T4,.v (.t 7) T4,.obj (.t 3) false 27 5,.v (.c 0 0) T27]),(.ret,[.v (.t 4) T4])]
def qe2(n:Nat)(x:qf qc0):Option (qU qc1):=(qnM tab (qv n) (qeo n) (.tmp 105) (subC [true,true,true,true,true,true,false,true,false] (qp Tryz.f3)) (subC [true,true,true,true,true,true,false,true,true] (qp Tryz.f3)) 1 (mkS qc0 164 x)).run (fun r=>qfd 164 qc1 r.1 r.2)
def qc2(n:Nat):Lp:=⟨164,qc0,qc1,qe2 n⟩
theorem qhl(n:Nat):qkj (qv n).c (subC [true,true,true,true,true,true,false,true,false] (qp Tryz.f3)) (subC [true,true,true,true,true,true,false,true,true] (qp Tryz.f3)) 1=[]:=by kernel_rfl
theorem qgH(n:Nat)(st:St)(r:DEx×St)(h:((qc2 n).go st).Is r):DA Tryz.prog false (.cond (.tmp 105) (subC [true,true,true,true,true,true,false,true,false] (qp Tryz.f3)) (subC [true,true,true,true,true,true,false,true,true] (qp Tryz.f3))) st r:=Lp.okC (L:=qc2 n) (B:=tab) (cs:=qv n) (lo:=qeo n) (n:=1) (qss (qhl n) qfU) (fun _=>rfl) h
def qep(n:Nat):Nat→St→PT (DEx×St):=fun _ _=>.fail
abbrev qc3:List It:=[.v (.t 6) T4,.v (.t 7) T4,.v (.t 13) T22,.v (.t 138) T4,.obj (.t 3) false 27 5,.v (.c 0 0) T27]
abbrev qc4:List (DEx×List It):=[(.normal,[]),(.ret,[.v (.t 4) T4])]
def qe3(n:Nat)(x:qf qc3):Option (qU qc4):=(qnM tab (qv n) (qep n) (.tmp 138) (subC [true,true,true,true,true,true,true,true,false,true,false] (qp Tryz.f3)) (subC [true,true,true,true,true,true,true,true,false,true,true] (qp Tryz.f3)) 1 (mkS qc3 164 x)).run (fun r=>qfd 164 qc4 r.1 r.2)
def qc5(n:Nat):Lp:=⟨164,qc3,qc4,qe3 n⟩
theorem qhm(n:Nat):qkj (qv n).c (subC [true,true,true,true,true,true,true,true,false,true,false] (qp Tryz.f3)) (subC [true,true,true,true,true,true,true,true,false,true,true] (qp Tryz.f3)) 1=[]:=by kernel_rfl
theorem qgI(n:Nat)(st:St)(r:DEx×St)(h:((qc5 n).go st).Is r):DA Tryz.prog false (.cond (.tmp 138) (subC [true,true,true,true,true,true,true,true,false,true,false] (qp Tryz.f3)) (subC [true,true,true,true,true,true,true,true,false,true,true] (qp Tryz.f3))) st r:=Lp.okC (L:=qc5 n) (B:=tab) (cs:=qv n) (lo:=qep n) (n:=1) (qss (qhm n) qfU) (fun _=>rfl) h
def qf6(n:Nat):Nat→St→PT (DEx×St):=fun k st=>(match Nat.beq k 1000105 with
 | true=>(qc2 n).go st
 | false=>(match Nat.beq k 1000138 with
 | true=>(qc5 n).go st
 | false=>(match k with
 | 0=>(qed n).go st
 | _=>.fail)))
theorem qjl(n:Nat):qW (qv n).c (qp Tryz.f3) 0=[(0,.loop (subC [true,true,false,true,false,false] (qp Tryz.f3))),(1000105,.cond (.tmp 105) (subC [true,true,true,true,true,true,false,true,false] (qp Tryz.f3)) (subC [true,true,true,true,true,true,false,true,true] (qp Tryz.f3))),(1000138,.cond (.tmp 138) (subC [true,true,true,true,true,true,true,true,false,true,false] (qp Tryz.f3)) (subC [true,true,true,true,true,true,true,true,false,true,true] (qp Tryz.f3)))]:=by kernel_rfl
theorem qjm:Tryz.f3.body=some (qp Tryz.f3):=by kernel_rfl
abbrev qeq:List Ar:=[.d T22,.d T27]
abbrev qer:List Ty:=[T4]
def qgs(n:Nat)(x:qdv qeq):Option (qx qer):=(qcW tab (qv n) (qf6 n) (qp Tryz.f3) 0 (qfe qeq 164 x)).run (qrs tab [.tmp 4] qer)
def qdj(n:Nat):Ct Tryz.prog:=⟨3,qeq,.ts qer,qgs n,fun _ _ h=>qt9 (B:=tab) (cs:=qv n) (lo:=qf6 n) (rs:=[.tmp 4]) Tryz.func3 (by kernel_rfl) qjm (by kernel_rfl) (by decide) (qjK (qjl n) (all_cons (fun st r h=>qid n st r h) (all_cons (fun st r h=>qgH n st r h) (all_cons (fun st r h=>qgI n st r h) qfU)))) h⟩
end
end
end Go.Proofs.YtbdockhccdkdiaaGreat
