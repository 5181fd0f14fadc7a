/- Printed: what functions of the program compute. -/
import Derived.Test.YtcjgodgpaokbnaaDnS
set_option linter.constructorNameAsVariable false
set_option linter.unusedSimpArgs false
set_option linter.unusedVariables false
set_option linter.unusedSectionVars false
namespace Go.Proofs.Ytcjgodgpaokbnaa
open Go Go.Proofs Go.RowKit
set_option maxRecDepth 20000
noncomputable def qkm(n:Nat):CL Try.prog:=⟨[],[],0,fun _=>false⟩
noncomputable def qpf(n:Nat):Nat→St→PT (DEx×St):=fun _ _=>.fail
theorem qv1(n:Nat):qe (qkm n).c (qa Try.f93) 0=[]:=by kernel_rfl
theorem qv2:Try.f93.body=some (qa Try.f93):=by kernel_rfl
abbrev qkn:List It:=[.raw (.t 0),.v (.t 1) T3]
abbrev qj6:List (List It):=[[.row (.t 0) false T30 30]]
noncomputable def qz(n:Nat)(x:qc qkn):Option (qC qj6):=runW tab (qkm n) (qpf n) (qa Try.f93) qkn 2 27 [.tmp 4] qj6 x
noncomputable def qv3(n:Nat):Cw Try.prog:=⟨93,2,qkn,1,qj6,qz n,fun _ _ h=>qbT (B:=tab) (cs:=qkm n) (lo:=qpf n) (rs:=[.tmp 4]) Try.func93 (by kernel_rfl) qv2 (by kernel_rfl) (by decide) (ql (qv1 n) qf) h⟩
noncomputable def qb3(n:Nat):CL Try.prog:=⟨[],[qv3 n],1,fun _=>false⟩
noncomputable def qpX(n:Nat):Nat→St→PT (DEx×St):=fun _ _=>.fail
abbrev qgo:List It:=[.v (.t 0) T83,.v (.t 3) T3,.v (.t 9) T83,.v (.t 10) T3,.v (.t 11) T3]
abbrev qiP:List (DEx×List It):=[(.exit 0,[.v (.t 0) T83,.v (.t 3) T3])]
noncomputable def qqv(n:Nat)(rec:qc qgo→Option (qk qiP))(s:qc qgo):Option (qk qiP):=(qo tab (qb3 n) (qpX n) (subC [true,true,false,true,false,false] (qa Try.f58)) 1 (mkS qgo 36 s)).run (Lp.leaf 36 qgo qiP rec)
noncomputable def qlm(n:Nat):Lp:=⟨36,qgo,qiP,qh n (qqv n)⟩
theorem qwH(n:Nat):qe (qb3 n).c (subC [true,true,false,true,false,false] (qa Try.f58)) 1=[]:=by kernel_rfl
theorem qu9(n:Nat)(st:St)(r:DEx×St)(h:((qlm n).go st).Is r):DA Try.prog false (.loop (subC [true,true,false,true,false,false] (qa Try.f58))) st r:=Lp.ok (L:=qlm n) (B:=tab) (cs:=qb3 n) (lo:=qpX n) (id:=0) rfl (ql (qwH n) qf) (fun _ _=>rfl) h
noncomputable def qpY(n:Nat):Nat→St→PT (DEx×St):=fun _ _=>.fail
abbrev qgp:List It:=[.v (.t 25) T83,.v (.t 26) T3,.v (.t 27) T3,.row (.t 6) false T30 30]
abbrev qiQ:List (DEx×List It):=[(.exit 2,[.row (.t 6) false T30 30])]
noncomputable def qqw(n:Nat)(rec:qc qgp→Option (qk qiQ))(s:qc qgp):Option (qk qiQ):=(qo tab (qb3 n) (qpY n) (subC [true,true,true,true,false,true,false,false] (qa Try.f58)) 2 (mkS qgp 36 s)).run (Lp.leaf 36 qgp qiQ rec)
noncomputable def qln(n:Nat):Lp:=⟨36,qgp,qiQ,qh n (qqw n)⟩
theorem qwI(n:Nat):qe (qb3 n).c (subC [true,true,true,true,false,true,false,false] (qa Try.f58)) 2=[]:=by kernel_rfl
theorem qva(n:Nat)(st:St)(r:DEx×St)(h:((qln n).go st).Is r):DA Try.prog false (.loop (subC [true,true,true,true,false,true,false,false] (qa Try.f58))) st r:=Lp.ok (L:=qln n) (B:=tab) (cs:=qb3 n) (lo:=qpY n) (id:=1) rfl (ql (qwI n) qf) (fun _ _=>rfl) h
noncomputable def qqx(n:Nat):Nat→St→PT (DEx×St):=fun k st=>match k with
 | 0=>(qlm n).go st
 | 1=>(qln n).go st
 | _=>.fail
theorem qxq(n:Nat):qe (qb3 n).c (qa Try.f58) 0=[(0,.loop (subC [true,true,false,true,false,false] (qa Try.f58))),(1,.loop (subC [true,true,true,true,false,true,false,false] (qa Try.f58)))]:=by kernel_rfl
theorem qxr:Try.f58.body=some (qa Try.f58):=by kernel_rfl
abbrev qlo:List It:=[.v (.t 0) T83]
abbrev qkJ:List (List It):=[[.row (.t 0) false T30 30]]
noncomputable def qqZ(n:Nat)(x:qc qlo):Option (qC qkJ):=runW tab (qb3 n) (qqx n) (qa Try.f58) qlo 1 36 [.tmp 2] qkJ x
noncomputable def qxs(n:Nat):Cw Try.prog:=⟨58,1,qlo,1,qkJ,qqZ n,fun _ _ h=>qbT (B:=tab) (cs:=qb3 n) (lo:=qqx n) (rs:=[.tmp 2]) Try.func58 (by kernel_rfl) qxr (by kernel_rfl) (by decide) (ql (qxq n) (all_cons (fun st r h=>qu9 n st r h) (all_cons (fun st r h=>qva n st r h) qf))) h⟩
abbrev qG:List It:=[.v (.t 1) T3,.v (.t 2) T3,.v (.t 3) T3,.fn (.t 4) 60 [] [],.row (.t 0) true T30 30]
abbrev qD:List (List It):=[[.row (.t 0) true T30 30]]
abbrev qb:Type:={g:qc qG→Option (qC qD) // qEJ Try.prog 94 5 qG 0 qD g}
noncomputable def qg(n:Nat)(g:qb):CL Try.prog:=⟨[qc7 n,qhy n],[qgT n,qgV n,qh1 n,qgZ n,qg5 n,qfs n,qgJ n,qhO n,⟨94,5,qG,0,qD,g.1,g.2⟩],0,fun i=>Nat.beq i 39||Nat.beq i 56||Nat.beq i 75||Nat.beq i 97||Nat.beq i 125⟩
noncomputable def qgq(n:Nat)(g:qb):Nat→St→PT (DEx×St):=fun _ _=>.fail
abbrev qdv:List It:=[.v (.t 1) T3,.v (.t 2) T3,.v (.t 3) T3,.fn (.t 4) 60 [] [],.v (.t 10) T4,.v (.t 11) T4,.v (.t 12) T3,.v (.t 39) T4,.row (.t 0) true T30 30]
abbrev qdw:List (DEx×List It):=[(.normal,[.v (.t 1) T3,.v (.t 2) T3,.v (.t 3) T3,.fn (.t 4) 60 [] [],.v (.t 10) T4,.v (.t 11) T4,.v (.t 12) T3,.row (.t 0) true T30 30])]
noncomputable def qhj(n:Nat)(g:qb)(x:qc qdv):Option (qk qdw):=(qAs tab (qg n g) (qgq n g) (.tmp 39) (subC [true,true,false,false,false,true,true,true,false,true,false] (qa Try.f94)) (subC [true,true,false,false,false,true,true,true,false,true,true] (qa Try.f94)) 1 (mkS qdv 148 x)).run (fun r=>qmF 148 qdw r.1 r.2)
noncomputable def qdx(n:Nat)(g:qb):Lp:=⟨148,qdv,qdw,qhj n g⟩
theorem qlH(n:Nat)(g:qb):qvj (qg n g).c (subC [true,true,false,false,false,true,true,true,false,true,false] (qa Try.f94)) (subC [true,true,false,false,false,true,true,true,false,true,true] (qa Try.f94)) 1=[]:=by kernel_rfl
theorem qkK(n:Nat)(g:qb)(st:St)(r:DEx×St)(h:((qdx n g).go st).Is r):DA Try.prog false (.cond (.tmp 39) (subC [true,true,false,false,false,true,true,true,false,true,false] (qa Try.f94)) (subC [true,true,false,false,false,true,true,true,false,true,true] (qa Try.f94))) st r:=Lp.okC (L:=qdx n g) (B:=tab) (cs:=qg n g) (lo:=qgq n g) (n:=1) (qDN (qlH n g) qf) (fun _=>rfl) h
noncomputable def qgr(n:Nat)(g:qb):Nat→St→PT (DEx×St):=fun _ _=>.fail
abbrev qdy:List It:=[.v (.t 1) T3,.v (.t 2) T3,.v (.t 3) T3,.fn (.t 4) 60 [] [],.v (.t 10) T4,.v (.t 11) T4,.v (.t 12) T3,.v (.t 13) T3,.v (.t 14) T118,.v (.t 56) T4,.row (.t 0) true T30 30]
abbrev qdz:List (DEx×List It):=[(.normal,[.v (.t 1) T3,.v (.t 2) T3,.v (.t 3) T3,.fn (.t 4) 60 [] [],.v (.t 10) T4,.v (.t 11) T4,.v (.t 12) T3,.v (.t 13) T3,.v (.t 14) T118,.row (.t 0) true T30 30])]
noncomputable def qhk(n:Nat)(g:qb)(x:qc qdy):Option (qk qdz):=(qAs tab (qg n g) (qgr n g) (.tmp 56) (subC [true,true,false,false,false,true,true,true,true,true,false,true,false] (qa Try.f94)) (subC [true,true,false,false,false,true,true,true,true,true,false,true,true] (qa Try.f94)) 1 (mkS qdy 148 x)).run (fun r=>qmF 148 qdz r.1 r.2)
noncomputable def qdA(n:Nat)(g:qb):Lp:=⟨148,qdy,qdz,qhk n g⟩
theorem qlI(n:Nat)(g:qb):qvj (qg n g).c (subC [true,true,false,false,false,true,true,true,true,true,false,true,false] (qa Try.f94)) (subC [true,true,false,false,false,true,true,true,true,true,false,true,true] (qa Try.f94)) 1=[]:=by kernel_rfl
theorem qkL(n:Nat)(g:qb)(st:St)(r:DEx×St)(h:((qdA n g).go st).Is r):DA Try.prog false (.cond (.tmp 56) (subC [true,true,false,false,false,true,true,true,true,true,false,true,false] (qa Try.f94)) (subC [true,true,false,false,false,true,true,true,true,true,false,true,true] (qa Try.f94))) st r:=Lp.okC (L:=qdA n g) (B:=tab) (cs:=qg n g) (lo:=qgr n g) (n:=1) (qDN (qlI n g) qf) (fun _=>rfl) h
noncomputable def qgs(n:Nat)(g:qb):Nat→St→PT (DEx×St):=fun _ _=>.fail
abbrev qdB:List It:=[.v (.t 1) T3,.v (.t 2) T3,.v (.t 3) T3,.fn (.t 4) 60 [] [],.v (.t 10) T4,.v (.t 11) T4,.v (.t 12) T3,.v (.t 13) T3,.v (.t 75) T4,.row (.t 0) true T30 30]
abbrev qdC:List (DEx×List It):=[(.normal,[.v (.t 1) T3,.v (.t 2) T3,.v (.t 3) T3,.fn (.t 4) 60 [] [],.v (.t 10) T4,.v (.t 11) T4,.v (.t 12) T3,.v (.t 13) T3,.row (.t 0) true T30 30]),(.ret,[.row (.t 0) true T30 30])]
noncomputable def qhl(n:Nat)(g:qb)(x:qc qdB):Option (qk qdC):=(qAs tab (qg n g) (qgs n g) (.tmp 75) (subC [true,true,false,false,false,true,true,true,true,true,true,false,true,false] (qa Try.f94)) (subC [true,true,false,false,false,true,true,true,true,true,true,false,true,true] (qa Try.f94)) 1 (mkS qdB 148 x)).run (fun r=>qmF 148 qdC r.1 r.2)
noncomputable def qdD(n:Nat)(g:qb):Lp:=⟨148,qdB,qdC,qhl n g⟩
theorem qlJ(n:Nat)(g:qb):qvj (qg n g).c (subC [true,true,false,false,false,true,true,true,true,true,true,false,true,false] (qa Try.f94)) (subC [true,true,false,false,false,true,true,true,true,true,true,false,true,true] (qa Try.f94)) 1=[]:=by kernel_rfl
theorem qkM(n:Nat)(g:qb)(st:St)(r:DEx×St)(h:((qdD n g).go st).Is r):DA Try.prog false (.cond (.tmp 75) (subC [true,true,false,false,false,true,true,true,true,true,true,false,true,false] (qa Try.f94)) (subC [true,true,false,false,false,true,true,true,true,true,true,false,true,true] (qa Try.f94))) st r:=Lp.okC (L:=qdD n g) (B:=tab) (cs:=qg n g) (lo:=qgs n g) (n:=1) (qDN (qlJ n g) qf) (fun _=>rfl) h
noncomputable def qgt(n:Nat)(g:qb):Nat→St→PT (DEx×St):=fun _ _=>.fail
abbrev qdE:List It:=[.v (.t 1) T3,.v (.t 2) T3,.v (.t 3) T3,.fn (.t 4) 60 [] [],.v (.t 10) T4,.v (.t 11) T4,.v (.t 12) T3,.v (.t 13) T3,.v (.t 97) T4,.row (.t 0) true T30 30]
abbrev qdF:List (DEx×List It):=[(.normal,[.v (.t 1) T3,.v (.t 2) T3,.v (.t 3) T3,.fn (.t 4) 60 [] [],.v (.t 12) T3,.v (.t 13) T3,.row (.t 0) true T30 30]),(.exit 1,[.v (.t 1) T3,.v (.t 2) T3,.v (.t 3) T3,.fn (.t 4) 60 [] [],.v (.t 10) T4,.v (.t 11) T4,.row (.t 0) true T30 30])]
noncomputable def qhm(n:Nat)(g:qb)(x:qc qdE):Option (qk qdF):=(qAs tab (qg n g) (qgt n g) (.tmp 97) (subC [true,true,false,false,false,true,true,true,true,true,true,true,false,true,false] (qa Try.f94)) (subC [true,true,false,false,false,true,true,true,true,true,true,true,false,true,true] (qa Try.f94)) 1 (mkS qdE 148 x)).run (fun r=>qmF 148 qdF r.1 r.2)
noncomputable def qdG(n:Nat)(g:qb):Lp:=⟨148,qdE,qdF,qhm n g⟩
theorem qlK(n:Nat)(g:qb):qvj (qg n g).c (subC [true,true,false,false,false,true,true,true,true,true,true,true,false,true,false] (qa Try.f94)) (subC [true,true,false,false,false,true,true,true,true,true,true,true,false,true,true] (qa Try.f94)) 1=[]:=by kernel_rfl
theorem qkN(n:Nat)(g:qb)(st:St)(r:DEx×St)(h:((qdG n g).go st).Is r):DA Try.prog false (.cond (.tmp 97) (subC [true,true,false,false,false,true,true,true,true,true,true,true,false,true,false] (qa Try.f94)) (subC [true,true,false,false,false,true,true,true,true,true,true,true,false,true,true] (qa Try.f94))) st r:=Lp.okC (L:=qdG n g) (B:=tab) (cs:=qg n g) (lo:=qgt n g) (n:=1) (qDN (qlK n g) qf) (fun _=>rfl) h
noncomputable def qgu(n:Nat)(g:qb):Nat→St→PT (DEx×St):=fun _ _=>.fail
abbrev qdH:List It:=[.v (.t 1) T3,.v (.t 2) T3,.v (.t 3) T3,.fn (.t 4) 60 [] [],.v (.t 11) T4,.v (.t 16) T3,.v (.t 18) T3,.v (.t 19) T3,.v (.t 20) T3,.v (.t 125) T4,.row (.t 0) true T30 30]
abbrev qdI:List (DEx×List It):=[(.normal,[.v (.t 1) T3,.v (.t 2) T3,.v (.t 3) T3,.fn (.t 4) 60 [] [],.v (.t 10) T4,.v (.t 11) T4,.row (.t 0) true T30 30])]
noncomputable def qg6(n:Nat)(g:qb)(x:qc qdH):Option (qk qdI):=(qAs tab (qg n g) (qgu n g) (.tmp 125) (subC [true,true,false,false,false,true,true,true,true,true,true,true,true,true,true,true,true,true,false] (qa Try.f94)) (subC [true,true,false,false,false,true,true,true,true,true,true,true,true,true,true,true,true,true,true] (qa Try.f94)) 1 (mkS qdH 148 x)).run (fun r=>qmF 148 qdI r.1 r.2)
noncomputable def qdJ(n:Nat)(g:qb):Lp:=⟨148,qdH,qdI,qg6 n g⟩
theorem qlL(n:Nat)(g:qb):qvj (qg n g).c (subC [true,true,false,false,false,true,true,true,true,true,true,true,true,true,true,true,true,true,false] (qa Try.f94)) (subC [true,true,false,false,false,true,true,true,true,true,true,true,true,true,true,true,true,true,true] (qa Try.f94)) 1=[]:=by kernel_rfl
theorem qkO(n:Nat)(g:qb)(st:St)(r:DEx×St)(h:((qdJ n g).go st).Is r):DA Try.prog false (.cond (.tmp 125) (subC [true,true,false,false,false,true,true,true,true,true,true,true,true,true,true,true,true,true,false] (qa Try.f94)) (subC [true,true,false,false,false,true,true,true,true,true,true,true,true,true,true,true,true,true,true] (qa Try.f94))) st r:=Lp.okC (L:=qdJ n g) (B:=tab) (cs:=qg n g) (lo:=qgu n g) (n:=1) (qDN (qlL n g) qf) (fun _=>rfl) h
noncomputable def qhP(n:Nat)(g:qb):Nat→St→PT (DEx×St):=fun k st=>(match Nat.beq k 1000039 with
 | true=>(qdx n g).go st
 | false=>(match Nat.beq k 1000056 with
 | true=>(qdA n g).go st
 | false=>(match Nat.beq k 1000075 with
 | true=>(qdD n g).go st
 | false=>(match Nat.beq k 1000097 with
 | true=>(qdG n g).go st
 | false=>(match Nat.beq k 1000125 with
 | true=>(qdJ n g).go st
 | false=>.fail)))))
abbrev qbP:List It:=[.v (.t 1) T3,.v (.t 2) T3,.v (.t 3) T3,.fn (.t 4) 60 [] [],.v (.t 10) T4,.v (.t 11) T4,.row (.t 0) true T30 30]
abbrev qcL:List (DEx×List It):=[(.ret,[.row (.t 0) true T30 30])]
noncomputable def qh2(n:Nat)(g:qb)(rec:qc qbP→Option (qk qcL))(s:qc qbP):Option (qk qcL):=(qo tab (qg n g) (qhP n g) (subC [true,true,false,false] (qa Try.f94)) 1 (mkS qbP 148 s)).run (Lp.leaf 148 qbP qcL rec)
noncomputable def qeN(n:Nat)(g:qb):Lp:=⟨148,qbP,qcL,qh n (qh2 n g)⟩
theorem qnX(n:Nat)(g:qb):qe (qg n g).c (subC [true,true,false,false] (qa Try.f94)) 1=[(1000039,.cond (.tmp 39) (subC [true,true,false,false,false,true,true,true,false,true,false] (qa Try.f94)) (subC [true,true,false,false,false,true,true,true,false,true,true] (qa Try.f94))),(1000056,.cond (.tmp 56) (subC [true,true,false,false,false,true,true,true,true,true,false,true,false] (qa Try.f94)) (subC [true,true,false,false,false,true,true,true,true,true,false,true,true] (qa Try.f94))),(1000075,.cond (.tmp 75) (subC [true,true,false,false,false,true,true,true,true,true,true,false,true,false] (qa Try.f94)) (subC [true,true,false,false,false,true,true,true,true,true,true,false,true,true] (qa Try.f94))),(1000097,.cond (.tmp 97) (subC [true,true,false,false,false,true,true,true,true,true,true,true,false,true,false] (qa Try.f94)) (subC [true,true,false,false,false,true,true,true,true,true,true,true,false,true,true] (qa Try.f94))),(1000125,.cond (.tmp 125) (subC [true,true,false,false,false,true,true,true,true,true,true,true,true,true,true,true,true,true,false] (qa Try.f94)) (subC [true,true,false,false,false,true,true,true,true,true,true,true,true,true,true,true,true,true,true] (qa Try.f94)))]:=by kernel_rfl
theorem qmW(n:Nat)(g:qb)(st:St)(r:DEx×St)(h:((qeN n g).go st).Is r):DA Try.prog false (.loop (subC [true,true,false,false] (qa Try.f94))) st r:=Lp.ok (L:=qeN n g) (B:=tab) (cs:=qg n g) (lo:=qhP n g) (id:=0) rfl (ql (qnX n g) (all_cons (fun st r h=>qkK n g st r h) (all_cons (fun st r h=>qkL n g st r h) (all_cons (fun st r h=>qkM n g st r h) (all_cons (fun st r h=>qkN n g st r h) (all_cons (fun st r h=>qkO n g st r h) qf)))))) (fun _ _=>rfl) h
noncomputable def qh3(n:Nat)(g:qb):Nat→St→PT (DEx×St):=fun k st=>match k with
 | 0=>(qeN n g).go st
 | _=>.fail
theorem qof(n:Nat)(g:qb):qe (qg n g).c (qa Try.f94) 0=[(0,.loop (subC [true,true,false,false] (qa Try.f94)))]:=by kernel_rfl
theorem qog:Try.f94.body=some (qa Try.f94):=by kernel_rfl
noncomputable def qeO(n:Nat)(g:qb)(x:qc qG):Option (qC qD):=runW tab (qg n g) (qh3 n g) (qa Try.f94) qG 5 148 [] qD x
theorem qnY(n:Nat)(g:qb):qEJ Try.prog 94 5 qG 0 qD (qeO n g):=fun _ _ h=>qbT (B:=tab) (cs:=qg n g) (lo:=qh3 n g) (rs:=[]) Try.func94 (by kernel_rfl) qog (by kernel_rfl) (by decide) (ql (qof n g) (all_cons (fun st r h=>qmW n g st r h) qf)) h
noncomputable def qB(n:Nat):Nat→qb
 | 0=>⟨fun _=>none,fun _ _ h=>by cases h⟩
 | k+1=>⟨qeO n (qB n k),qnY n (qB n k)⟩
noncomputable def qir(n:Nat)(x:qc qG):Option (qC qD):=(qB n n).1 x
noncomputable def qis(n:Nat):Cw Try.prog:=⟨94,5,qG,0,qD,qir n,(qB n n).2⟩
noncomputable def qfU(n:Nat):CL Try.prog:=⟨[qsj n,qc7 n],[qis n],0,fun _=>false⟩
noncomputable def qjz(n:Nat):Nat→St→PT (DEx×St):=fun _ _=>.fail
theorem qqy(n:Nat):qe (qfU n).c (qa Try.f59) 0=[]:=by kernel_rfl
theorem qqz:Try.f59.body=some (qa Try.f59):=by kernel_rfl
abbrev qfV:List It:=[.fn (.t 1) 60 [] [],.row (.t 0) true T30 30]
abbrev qfG:List (List It):=[[.row (.t 0) true T30 30]]
noncomputable def qjN(n:Nat)(x:qc qfV):Option (qC qfG):=runW tab (qfU n) (qjz n) (qa Try.f59) qfV 2 14 [] qfG x
noncomputable def qjO(n:Nat):Cw Try.prog:=⟨59,2,qfV,0,qfG,qjN n,fun _ _ h=>qbT (B:=tab) (cs:=qfU n) (lo:=qjz n) (rs:=[]) Try.func59 (by kernel_rfl) qqz (by kernel_rfl) (by decide) (ql (qqy n) qf) h⟩
abbrev qH:List It:=[.v (.t 1) T3,.v (.t 2) T3,.v (.t 3) T3,.fn (.t 4) 75 [] [],.row (.t 0) true T30 30]
abbrev qE:List (List It):=[[.row (.t 0) true T30 30]]
abbrev qn:Type:={g:qc qH→Option (qC qE) // qEJ Try.prog 94 5 qH 0 qE g}
noncomputable def qbc(n:Nat)(g:qn):CL Try.prog:=⟨[qwE n,qhy n],[qgT n,qgV n,qh1 n,qgZ n,qg5 n,qfs n,qgJ n,qhO n,⟨94,5,qH,0,qE,g.1,g.2⟩],0,fun _=>false⟩
noncomputable def qhQ(n:Nat)(g:qn):Nat→St→PT (DEx×St):=fun _ _=>.fail
abbrev qbQ:List It:=[.v (.t 1) T3,.v (.t 2) T3,.v (.t 3) T3,.fn (.t 4) 75 [] [],.v (.t 10) T4,.v (.t 11) T4,.row (.t 0) true T30 30]
abbrev qcM:List (DEx×List It):=[(.ret,[.row (.t 0) true T30 30])]
noncomputable def qh4(n:Nat)(g:qn)(rec:qc qbQ→Option (qk qcM))(s:qc qbQ):Option (qk qcM):=(qo tab (qbc n g) (qhQ n g) (subC [true,true,false,false] (qa Try.f94)) 1 (mkS qbQ 148 s)).run (Lp.leaf 148 qbQ qcM rec)
noncomputable def qeP(n:Nat)(g:qn):Lp:=⟨148,qbQ,qcM,qh n (qh4 n g)⟩
theorem qnZ(n:Nat)(g:qn):qe (qbc n g).c (subC [true,true,false,false] (qa Try.f94)) 1=[]:=by kernel_rfl
theorem qmX(n:Nat)(g:qn)(st:St)(r:DEx×St)(h:((qeP n g).go st).Is r):DA Try.prog false (.loop (subC [true,true,false,false] (qa Try.f94))) st r:=Lp.ok (L:=qeP n g) (B:=tab) (cs:=qbc n g) (lo:=qhQ n g) (id:=0) rfl (ql (qnZ n g) qf) (fun _ _=>rfl) h
noncomputable def qh5(n:Nat)(g:qn):Nat→St→PT (DEx×St):=fun k st=>match k with
 | 0=>(qeP n g).go st
 | _=>.fail
theorem qoh(n:Nat)(g:qn):qe (qbc n g).c (qa Try.f94) 0=[(0,.loop (subC [true,true,false,false] (qa Try.f94)))]:=by kernel_rfl
theorem qoi:Try.f94.body=some (qa Try.f94):=by kernel_rfl
noncomputable def qeQ(n:Nat)(g:qn)(x:qc qH):Option (qC qE):=runW tab (qbc n g) (qh5 n g) (qa Try.f94) qH 5 148 [] qE x
theorem qn0(n:Nat)(g:qn):qEJ Try.prog 94 5 qH 0 qE (qeQ n g):=fun _ _ h=>qbT (B:=tab) (cs:=qbc n g) (lo:=qh5 n g) (rs:=[]) Try.func94 (by kernel_rfl) qoi (by kernel_rfl) (by decide) (ql (qoh n g) (all_cons (fun st r h=>qmX n g st r h) qf)) h
noncomputable def qS(n:Nat):Nat→qn
 | 0=>⟨fun _=>none,fun _ _ h=>by cases h⟩
 | k+1=>⟨qeQ n (qS n k),qn0 n (qS n k)⟩
noncomputable def qit(n:Nat)(x:qc qH):Option (qC qE):=(qS n n).1 x
noncomputable def qoj(n:Nat):Cw Try.prog:=⟨94,5,qH,0,qE,qit n,(qS n n).2⟩
noncomputable def qfW(n:Nat):CL Try.prog:=⟨[qsj n,qwE n],[qis n,qoj n],0,fun _=>false⟩
noncomputable def qjA(n:Nat):Nat→St→PT (DEx×St):=fun _ _=>.fail
theorem qqA(n:Nat):qe (qfW n).c (qa Try.f59) 0=[]:=by kernel_rfl
theorem qqB:Try.f59.body=some (qa Try.f59):=by kernel_rfl
abbrev qfX:List It:=[.fn (.t 1) 75 [] [],.row (.t 0) true T30 30]
abbrev qfH:List (List It):=[[.row (.t 0) true T30 30]]
noncomputable def qjP(n:Nat)(x:qc qfX):Option (qC qfH):=runW tab (qfW n) (qjA n) (qa Try.f59) qfX 2 14 [] qfH x
noncomputable def qjQ(n:Nat):Cw Try.prog:=⟨59,2,qfX,0,qfH,qjP n,fun _ _ h=>qbT (B:=tab) (cs:=qfW n) (lo:=qjA n) (rs:=[]) Try.func59 (by kernel_rfl) qqB (by kernel_rfl) (by decide) (ql (qqA n) qf) h⟩
noncomputable def qA(n:Nat):CL Try.prog:=⟨[qE5 n],[],0,fun _=>false⟩
noncomputable def qhR(n:Nat):Nat→St→PT (DEx×St):=fun _ _=>.fail
abbrev qbR:List It:=[.fn (.t 1) 62 [] [],.v (.t 5) T3,.v (.t 7) T3,.row (.t 0) true T30 30,.sub (.t 6) 0]
abbrev qcN:List (DEx×List It):=[(.exit 2,[.v (.t 5) T3,.row (.t 0) true T30 30])]
noncomputable def qh6(n:Nat)(rec:qc qbR→Option (qk qcN))(s:qc qbR):Option (qk qcN):=(qo tab (qA n) (qhR n) (subC [true,true,false,true,false,false,true,false,false,true,false,true,false,true,false,false] (qa Try.f61)) 2 (mkS qbR 66 s)).run (Lp.leaf 66 qbR qcN rec)
noncomputable def qeR(n:Nat):Lp:=⟨66,qbR,qcN,qh n (qh6 n)⟩
theorem qn1(n:Nat):qe (qA n).c (subC [true,true,false,true,false,false,true,false,false,true,false,true,false,true,false,false] (qa Try.f61)) 2=[]:=by kernel_rfl
theorem qmY(n:Nat)(st:St)(r:DEx×St)(h:((qeR n).go st).Is r):DA Try.prog false (.loop (subC [true,true,false,true,false,false,true,false,false,true,false,true,false,true,false,false] (qa Try.f61))) st r:=Lp.ok (L:=qeR n) (B:=tab) (cs:=qA n) (lo:=qhR n) (id:=1) rfl (ql (qn1 n) qf) (fun _ _=>rfl) h
noncomputable def qhS(n:Nat):Nat→St→PT (DEx×St):=fun k st=>match k with
 | 1=>(qeR n).go st
 | _=>.fail
abbrev qbS:List It:=[.fn (.t 1) 62 [] [],.v (.t 5) T3,.row (.t 0) true T30 30]
abbrev qcO:List (DEx×List It):=[(.exit 0,[.row (.t 0) true T30 30]),(.ret,[.row (.t 0) true T30 30,.sub (.t 4) 0])]
noncomputable def qh7(n:Nat)(rec:qc qbS→Option (qk qcO))(s:qc qbS):Option (qk qcO):=(qo tab (qA n) (qhS n) (subC [true,true,false,true,false,false] (qa Try.f61)) 1 (mkS qbS 66 s)).run (Lp.leaf 66 qbS qcO rec)
noncomputable def qeS(n:Nat):Lp:=⟨66,qbS,qcO,qh n (qh7 n)⟩
theorem qn2(n:Nat):qe (qA n).c (subC [true,true,false,true,false,false] (qa Try.f61)) 1=[(1,.loop (subC [true,true,false,true,false,false,true,false,false,true,false,true,false,true,false,false] (qa Try.f61)))]:=by kernel_rfl
theorem qmZ(n:Nat)(st:St)(r:DEx×St)(h:((qeS n).go st).Is r):DA Try.prog false (.loop (subC [true,true,false,true,false,false] (qa Try.f61))) st r:=Lp.ok (L:=qeS n) (B:=tab) (cs:=qA n) (lo:=qhS n) (id:=0) rfl (ql (qn2 n) (all_cons (fun st r h=>qmY n st r h) qf)) (fun _ _=>rfl) h
noncomputable def qh8(n:Nat):Nat→St→PT (DEx×St):=fun k st=>match k with
 | 0=>(qeS n).go st
 | _=>.fail
theorem qok(n:Nat):qe (qA n).c (qa Try.f61) 0=[(0,.loop (subC [true,true,false,true,false,false] (qa Try.f61)))]:=by kernel_rfl
theorem qol:Try.f61.body=some (qa Try.f61):=by kernel_rfl
abbrev qeT:List It:=[.fn (.t 1) 62 [] [],.row (.t 0) true T30 30]
abbrev qeC:List (List It):=[[.row (.t 1) true T30 30,.sub (.t 0) 0]]
noncomputable def qiu(n:Nat)(x:qc qeT):Option (qC qeC):=runW tab (qA n) (qh8 n) (qa Try.f61) qeT 2 66 [.tmp 4] qeC x
noncomputable def qom(n:Nat):Cw Try.prog:=⟨61,2,qeT,1,qeC,qiu n,fun _ _ h=>qbT (B:=tab) (cs:=qA n) (lo:=qh8 n) (rs:=[.tmp 4]) Try.func61 (by kernel_rfl) qol (by kernel_rfl) (by decide) (ql (qok n) (all_cons (fun st r h=>qmZ n st r h) qf)) h⟩
noncomputable def qbi(n:Nat):CL Try.prog:=⟨[],[qAB n],0,fun _=>false⟩
noncomputable def qh9(n:Nat):Nat→St→PT (DEx×St):=fun _ _=>.fail
abbrev qbU:List It:=[.v (.t 7) T3,.v (.t 8) T3,.row (.t 0) true T30 30,.fnc (.t 1) 72 [.box true 25 1],.v (.c 1 0) T25]
abbrev qcS:List (DEx×List It):=[(.exit 0,[.row (.t 0) true T30 30,.fnc (.t 1) 72 [.box true 25 1],.v (.c 1 0) T25]),(.ret,[.v (.t 4) T3,.row (.t 0) true T30 30,.fnc (.t 1) 72 [.box true 25 1],.v (.c 1 0) T25])]
noncomputable def qiv(n:Nat)(rec:qc qbU→Option (qk qcS))(s:qc qbU):Option (qk qcS):=(qo tab (qbi n) (qh9 n) (subC [true,false,true,false,false] (qa Try.f64)) 1 (mkS qbU 19 s)).run (Lp.leaf 19 qbU qcS rec)
noncomputable def qe4(n:Nat):Lp:=⟨19,qbU,qcS,qh n (qiv n)⟩
theorem qon(n:Nat):qe (qbi n).c (subC [true,false,true,false,false] (qa Try.f64)) 1=[]:=by kernel_rfl
theorem qnk(n:Nat)(st:St)(r:DEx×St)(h:((qe4 n).go st).Is r):DA Try.prog false (.loop (subC [true,false,true,false,false] (qa Try.f64))) st r:=Lp.ok (L:=qe4 n) (B:=tab) (cs:=qbi n) (lo:=qh9 n) (id:=0) rfl (ql (qon n) qf) (fun _ _=>rfl) h
noncomputable def qiw(n:Nat):Nat→St→PT (DEx×St):=fun k st=>match k with
 | 0=>(qe4 n).go st
 | _=>.fail
theorem qoI(n:Nat):qe (qbi n).c (qa Try.f64) 0=[(0,.loop (subC [true,false,true,false,false] (qa Try.f64)))]:=by kernel_rfl
theorem qoJ:Try.f64.body=some (qa Try.f64):=by kernel_rfl
abbrev qe5:List It:=[.row (.t 0) true T30 30,.fnc (.t 1) 72 [.box true 25 1],.v (.c 1 0) T25]
abbrev qeU:List (List It):=[[.v (.t 0) T3,.row (.t 1) true T30 30,.obj (.t 2) true 25 1,.v (.c 1 0) T25]]
noncomputable def qiH(n:Nat)(x:qc qe5):Option (qC qeU):=runW tab (qbi n) (qiw n) (qa Try.f64) qe5 2 19 [.tmp 4] qeU x
noncomputable def qiI(n:Nat):Cw Try.prog:=⟨64,2,qe5,1,qeU,qiH n,fun _ _ h=>qbT (B:=tab) (cs:=qbi n) (lo:=qiw n) (rs:=[.tmp 4]) Try.func64 (by kernel_rfl) qoJ (by kernel_rfl) (by decide) (ql (qoI n) (all_cons (fun st r h=>qnk n st r h) qf)) h⟩
noncomputable def qbu(n:Nat):CL Try.prog:=⟨[],[qiI n,qfu n,qAB n],0,fun _=>false⟩
noncomputable def qiX(n:Nat):Nat→St→PT (DEx×St):=fun _ _=>.fail
abbrev qce:List It:=[.v (.t 5) T3,.v (.t 6) T3,.row (.t 0) true T30 30,.fnc (.t 1) 72 [.box true 25 1],.v (.c 1 0) T25]
abbrev qc4:List (DEx×List It):=[(.exit 0,[.v (.t 5) T3,.row (.t 0) true T30 30,.fnc (.t 1) 72 [.box true 25 1],.v (.c 1 0) T25])]
noncomputable def qi7(n:Nat)(rec:qc qce→Option (qk qc4))(s:qc qce):Option (qk qc4):=(qo tab (qbu n) (qiX n) (subC [true,true,true,false,true,false,false] (qa Try.f70)) 1 (mkS qce 42 s)).run (Lp.leaf 42 qce qc4 rec)
noncomputable def qfw(n:Nat):Lp:=⟨42,qce,qc4,qh n (qi7 n)⟩
theorem qpg(n:Nat):qe (qbu n).c (subC [true,true,true,false,true,false,false] (qa Try.f70)) 1=[]:=by kernel_rfl
theorem qoo(n:Nat)(st:St)(r:DEx×St)(h:((qfw n).go st).Is r):DA Try.prog false (.loop (subC [true,true,true,false,true,false,false] (qa Try.f70))) st r:=Lp.ok (L:=qfw n) (B:=tab) (cs:=qbu n) (lo:=qiX n) (id:=0) rfl (ql (qpg n) qf) (fun _ _=>rfl) h
noncomputable def qi8(n:Nat):Nat→St→PT (DEx×St):=fun k st=>match k with
 | 0=>(qfw n).go st
 | _=>.fail
theorem qpE(n:Nat):qe (qbu n).c (qa Try.f70) 0=[(0,.loop (subC [true,true,true,false,true,false,false] (qa Try.f70)))]:=by kernel_rfl
theorem qpF:Try.f70.body=some (qa Try.f70):=by kernel_rfl
abbrev qfx:List It:=[.row (.t 0) true T30 30,.fnc (.t 1) 72 [.box true 25 1],.v (.c 1 0) T25]
abbrev qfp:List (List It):=[[.row (.t 1) true T30 30,.obj (.t 2) true 25 1,.v (.c 1 0) T25,.sub (.t 0) 0]]
noncomputable def qjk(n:Nat)(x:qc qfx):Option (qC qfp):=runW tab (qbu n) (qi8 n) (qa Try.f70) qfx 2 42 [.tmp 4] qfp x
noncomputable def qpG(n:Nat):Cw Try.prog:=⟨70,2,qfx,1,qfp,qjk n,fun _ _ h=>qbT (B:=tab) (cs:=qbu n) (lo:=qi8 n) (rs:=[.tmp 4]) Try.func70 (by kernel_rfl) qpF (by kernel_rfl) (by decide) (ql (qpE n) (all_cons (fun st r h=>qoo n st r h) qf)) h⟩
abbrev qck:List It:=[.v (.t 1) T3,.v (.t 2) T3,.v (.t 3) T3,.row (.t 0) true T3 3]
abbrev qcf:List (List It):=[[.row (.t 0) true T3 3]]
abbrev qK:Type:={g:qc qck→Option (qC qcf) // qEJ Try.prog 54 4 qck 0 qcf g}
noncomputable def qev(n:Nat)(g:qK):CL Try.prog:=⟨[qBo n],[qtK n,⟨54,4,qck,0,qcf,g.1,g.2⟩],0,fun _=>false⟩
noncomputable def qph(n:Nat)(g:qK):Nat→St→PT (DEx×St):=fun _ _=>.fail
abbrev qfQ:List It:=[.v (.t 1) T3,.v (.t 2) T3,.v (.t 3) T3,.v (.t 8) T4,.v (.t 9) T4,.row (.t 0) true T3 3]
abbrev qif:List (DEx×List It):=[(.ret,[.row (.t 0) true T3 3])]
noncomputable def qpZ(n:Nat)(g:qK)(rec:qc qfQ→Option (qk qif))(s:qc qfQ):Option (qk qif):=(qo tab (qev n g) (qph n g) (subC [true,true,false,false] (qa Try.f54)) 1 (mkS qfQ 134 s)).run (Lp.leaf 134 qfQ qif rec)
noncomputable def qkP(n:Nat)(g:qK):Lp:=⟨134,qfQ,qif,qh n (qpZ n g)⟩
theorem qv4(n:Nat)(g:qK):qe (qev n g).c (subC [true,true,false,false] (qa Try.f54)) 1=[]:=by kernel_rfl
theorem quy(n:Nat)(g:qK)(st:St)(r:DEx×St)(h:((qkP n g).go st).Is r):DA Try.prog false (.loop (subC [true,true,false,false] (qa Try.f54))) st r:=Lp.ok (L:=qkP n g) (B:=tab) (cs:=qev n g) (lo:=qph n g) (id:=0) rfl (ql (qv4 n g) qf) (fun _ _=>rfl) h
noncomputable def qp0(n:Nat)(g:qK):Nat→St→PT (DEx×St):=fun k st=>match k with
 | 0=>(qkP n g).go st
 | _=>.fail
theorem qwJ(n:Nat)(g:qK):qe (qev n g).c (qa Try.f54) 0=[(0,.loop (subC [true,true,false,false] (qa Try.f54)))]:=by kernel_rfl
theorem qwK:Try.f54.body=some (qa Try.f54):=by kernel_rfl
noncomputable def qkQ(n:Nat)(g:qK)(x:qc qck):Option (qC qcf):=runW tab (qev n g) (qp0 n g) (qa Try.f54) qck 4 134 [] qcf x
theorem qv5(n:Nat)(g:qK):qEJ Try.prog 54 4 qck 0 qcf (qkQ n g):=fun _ _ h=>qbT (B:=tab) (cs:=qev n g) (lo:=qp0 n g) (rs:=[]) Try.func54 (by kernel_rfl) qwK (by kernel_rfl) (by decide) (ql (qwJ n g) (all_cons (fun st r h=>quy n g st r h) qf)) h
noncomputable def qdg(n:Nat):Nat→qK
 | 0=>⟨fun _=>none,fun _ _ h=>by cases h⟩
 | k+1=>⟨qkQ n (qdg n k),qv5 n (qdg n k)⟩
noncomputable def qqC(n:Nat)(x:qc qck):Option (qC qcf):=(qdg n n).1 x
noncomputable def qwL(n:Nat):Cw Try.prog:=⟨54,4,qck,0,qcf,qqC n,(qdg n n).2⟩
noncomputable def qrZ(n:Nat):CL Try.prog:=⟨[qsj n],[qwL n],0,fun _=>false⟩
noncomputable def qwc(n:Nat):Nat→St→PT (DEx×St):=fun _ _=>.fail
theorem qD4(n:Nat):qe (qrZ n).c (qa Try.f33) 0=[]:=by kernel_rfl
theorem qD5:Try.f33.body=some (qa Try.f33):=by kernel_rfl
abbrev qr0:List It:=[.row (.t 0) true T3 3]
abbrev qro:List (List It):=[[.row (.t 0) true T3 3]]
noncomputable def qxt(n:Nat)(x:qc qr0):Option (qC qro):=runW tab (qrZ n) (qwc n) (qa Try.f33) qr0 1 11 [] qro x
noncomputable def qD6(n:Nat):Cw Try.prog:=⟨33,1,qr0,0,qro,qxt n,fun _ _ h=>qbT (B:=tab) (cs:=qrZ n) (lo:=qwc n) (rs:=[]) Try.func33 (by kernel_rfl) qD5 (by kernel_rfl) (by decide) (ql (qD4 n) qf) h⟩
noncomputable def qtU(n:Nat):CL Try.prog:=⟨[],[qxs n,qjO n,qjQ n,qom n],1,fun _=>false⟩
noncomputable def qyi(n:Nat):Nat→St→PT (DEx×St):=fun _ _=>.fail
theorem qFU(n:Nat):qe (qtU n).c (qa Try.f39) 0=[]:=by kernel_rfl
theorem qFV:Try.f39.body=some (qa Try.f39):=by kernel_rfl
abbrev qtV:List It:=[.v (.t 0) T83]
abbrev qs3:List (List It):=[[.row (.t 0) false T30 30]]
noncomputable def qzr(n:Nat)(x:qc qtV):Option (qC qs3):=runW tab (qtU n) (qyi n) (qa Try.f39) qtV 1 10 [.tmp 2] qs3 x
noncomputable def quz(n:Nat):Cw Try.prog:=⟨39,1,qtV,1,qs3,qzr n,fun _ _ h=>qbT (B:=tab) (cs:=qtU n) (lo:=qyi n) (rs:=[.tmp 2]) Try.func39 (by kernel_rfl) qFV (by kernel_rfl) (by decide) (ql (qFU n) qf) h⟩
noncomputable def qnB(n:Nat):CL Try.prog:=⟨[qCB n],[],0,fun _=>false⟩
noncomputable def qsn(n:Nat):Nat→St→PT (DEx×St):=fun _ _=>.fail
theorem qzs(n:Nat):qe (qnB n).c (qa Try.f91) 0=[]:=by kernel_rfl
theorem qzt:Try.f91.body=some (qa Try.f91):=by kernel_rfl
abbrev qnC:List It:=[.v (.t 0) T30,.obj (.t 1) true 69 2,.v (.c 0 0) T69]
abbrev qm0:List (List It):=[[.v (.t 0) T4,.obj (.t 1) true 69 2,.v (.c 0 0) T69]]
noncomputable def qs4(n:Nat)(x:qc qnC):Option (qC qm0):=runW tab (qnB n) (qsn n) (qa Try.f91) qnC 2 8 [.tmp 3] qm0 x
noncomputable def qs5(n:Nat):Cw Try.prog:=⟨91,2,qnC,1,qm0,qs4 n,fun _ _ h=>qbT (B:=tab) (cs:=qnB n) (lo:=qsn n) (rs:=[.tmp 3]) Try.func91 (by kernel_rfl) qzt (by kernel_rfl) (by decide) (ql (qzs n) qf) h⟩
noncomputable def qY(n:Nat):CL Try.prog:=⟨[],[qs5 n],0,fun _=>false⟩
noncomputable def qg0(n:Nat):Nat→St→PT (DEx×St):=fun _ _=>.fail
abbrev qbt:List It:=[.v (.t 0) T25,.v (.t 7) T3,.v (.t 8) T3,.fnc (.t 1) 91 [.box true 69 2],.v (.c 0 0) T69]
abbrev qch:List (DEx×List It):=[(.exit 0,[.fnc (.t 1) 91 [.box true 69 2],.v (.c 0 0) T69]),(.ret,[.v (.t 4) T3,.fnc (.t 1) 91 [.box true 69 2],.v (.c 0 0) T69])]
noncomputable def qg7(n:Nat)(rec:qc qbt→Option (qk qch))(s:qc qbt):Option (qk qch):=(qo tab (qY n) (qg0 n) (subC [true,false,true,false,false] (qa Try.f64)) 1 (mkS qbt 19 s)).run (Lp.leaf 19 qbt qch rec)
noncomputable def qdV(n:Nat):Lp:=⟨19,qbt,qch,qh n (qg7 n)⟩
theorem qmz(n:Nat):qe (qY n).c (subC [true,false,true,false,false] (qa Try.f64)) 1=[]:=by kernel_rfl
theorem qlp(n:Nat)(st:St)(r:DEx×St)(h:((qdV n).go st).Is r):DA Try.prog false (.loop (subC [true,false,true,false,false] (qa Try.f64))) st r:=Lp.ok (L:=qdV n) (B:=tab) (cs:=qY n) (lo:=qg0 n) (id:=0) rfl (ql (qmz n) qf) (fun _ _=>rfl) h
noncomputable def qg8(n:Nat):Nat→St→PT (DEx×St):=fun k st=>match k with
 | 0=>(qdV n).go st
 | _=>.fail
theorem qm1(n:Nat):qe (qY n).c (qa Try.f64) 0=[(0,.loop (subC [true,false,true,false,false] (qa Try.f64)))]:=by kernel_rfl
theorem qm2:Try.f64.body=some (qa Try.f64):=by kernel_rfl
abbrev qdW:List It:=[.v (.t 0) T25,.fnc (.t 1) 91 [.box true 69 2],.v (.c 0 0) T69]
abbrev qdR:List (List It):=[[.v (.t 0) T3,.obj (.t 1) true 69 2,.v (.c 0 0) T69]]
noncomputable def qhn(n:Nat)(x:qc qdW):Option (qC qdR):=runW tab (qY n) (qg8 n) (qa Try.f64) qdW 2 19 [.tmp 4] qdR x
noncomputable def qm3(n:Nat):Cw Try.prog:=⟨64,2,qdW,1,qdR,qhn n,fun _ _ h=>qbT (B:=tab) (cs:=qY n) (lo:=qg8 n) (rs:=[.tmp 4]) Try.func64 (by kernel_rfl) qm2 (by kernel_rfl) (by decide) (ql (qm1 n) (all_cons (fun st r h=>qlp n st r h) qf)) h⟩
noncomputable def qdh(n:Nat):CL Try.prog:=⟨[],[qiI n,qfu n,qm3 n,qs5 n],0,fun _=>false⟩
noncomputable def qgv(n:Nat):Nat→St→PT (DEx×St):=fun _ _=>.fail
theorem qlM(n:Nat):qe (qdh n).c (qa Try.f73) 0=[]:=by kernel_rfl
theorem qlN:Try.f73.body=some (qa Try.f73):=by kernel_rfl
abbrev qdi:List It:=[.v (.t 0) T25,.fnc (.t 1) 91 [.box true 69 2],.v (.c 0 0) T69]
abbrev qc2:List (List It):=[[.v (.t 0) T4,.obj (.t 1) true 69 2,.v (.c 0 0) T69]]
noncomputable def qgM(n:Nat)(x:qc qdi):Option (qC qc2):=runW tab (qdh n) (qgv n) (qa Try.f73) qdi 2 9 [.tmp 4] qc2 x
noncomputable def qlO(n:Nat):Cw Try.prog:=⟨73,2,qdi,1,qc2,qgM n,fun _ _ h=>qbT (B:=tab) (cs:=qdh n) (lo:=qgv n) (rs:=[.tmp 4]) Try.func73 (by kernel_rfl) qlN (by kernel_rfl) (by decide) (ql (qlM n) qf) h⟩
noncomputable def qpH(n:Nat):CL Try.prog:=⟨[qD0 n],[quz n,qio n,qlO n],1,fun _=>false⟩
noncomputable def qua(n:Nat):Nat→St→PT (DEx×St):=fun _ _=>.fail
theorem qBw(n:Nat):qe (qpH n).c (qa Try.f57) 0=[]:=by kernel_rfl
theorem qBx:Try.f57.body=some (qa Try.f57):=by kernel_rfl
abbrev qqD:List Ar:=[.d T69,.d T25]
abbrev qqE:List Ty:=[T33]
noncomputable def qu0(n:Nat)(x:qQ qqD):Option (qt qqE):=(qo tab (qpH n) (qua n) (qa Try.f57) 0 (q8 qqD 19 x)).run (qcK tab [.tmp 4] qqE)
noncomputable def qBy(n:Nat):Ct Try.prog:=⟨57,qqD,.ts qqE,qu0 n,fun _ _ h=>qcR (B:=tab) (cs:=qpH n) (lo:=qua n) (rs:=[.tmp 4]) Try.func57 (by kernel_rfl) qBx (by kernel_rfl) (by decide) (ql (qBw n) qf) h⟩
noncomputable def qxO(n:Nat):CL Try.prog:=⟨[qGH n,qBy n],[],0,fun _=>false⟩
noncomputable def qC8(n:Nat):Nat→St→PT (DEx×St):=fun _ _=>.fail
theorem qJB(n:Nat):qe (qxO n).c (qa Try.f38) 0=[]:=by kernel_rfl
theorem qJC:Try.f38.body=some (qa Try.f38):=by kernel_rfl
abbrev qzu:List Ar:=[.d T24,.d T25]
abbrev qzv:List Ty:=[T33]
noncomputable def qD7(n:Nat)(x:qQ qzu):Option (qt qzv):=(qo tab (qxO n) (qC8 n) (qa Try.f38) 0 (q8 qzu 14 x)).run (qcK tab [.tmp 4] qzv)
noncomputable def qD8(n:Nat):Ct Try.prog:=⟨38,qzu,.ts qzv,qD7 n,fun _ _ h=>qcR (B:=tab) (cs:=qxO n) (lo:=qC8 n) (rs:=[.tmp 4]) Try.func38 (by kernel_rfl) qJC (by kernel_rfl) (by decide) (ql (qJB n) qf) h⟩
end Go.Proofs.Ytcjgodgpaokbnaa
