/- Printed: what functions of the program compute. -/
import Derived.Test.YtcjgodgpaokbnaaDnS
set_option linter.constructorNameAsVariable false
set_option linter.unusedSimpArgs false
set_option linter.unusedVariables false
set_option linter.unusedSectionVars false
namespace Go.Proofs.Ytcjgodgpaokbnaa
open Go Go.Proofs Go.RowKit
set_option maxRecDepth 20000
noncomputable def qj8(n:Nat):CL Try.prog:=⟨[],[],0,fun _=>false⟩
noncomputable def qoQ(n:Nat):Nat→St→PT (DEx×St):=fun _ _=>.fail
theorem qu1(n:Nat):qe (qj8 n).c (qa Try.f93) 0=[]:=by kernel_rfl
theorem qu2:Try.f93.body=some (qa Try.f93):=by kernel_rfl
abbrev qj9:List It:=[.raw (.t 0),.v (.t 1) T3]
abbrev qjU:List (List It):=[[.row (.t 0) false T30 30]]
noncomputable def qz(n:Nat)(x:qc qj9):Option (qI qjU):=runW tab (qj8 n) (qoQ n) (qa Try.f93) qj9 2 27 [.tmp 4] qjU x
noncomputable def qu3(n:Nat):Cw Try.prog:=⟨93,2,qj9,1,qjU,qz n,fun _ _ h=>qb2 (B:=tab) (cs:=qj8 n) (lo:=qoQ n) (rs:=[.tmp 4]) Try.func93 (by kernel_rfl) qu2 (by kernel_rfl) (by decide) (ql (qu1 n) qf) h⟩
noncomputable def qb0(n:Nat):CL Try.prog:=⟨[],[qu3 n],1,fun _=>false⟩
noncomputable def qpp(n:Nat):Nat→St→PT (DEx×St):=fun _ _=>.fail
abbrev qgi:List It:=[.v (.t 0) T83,.v (.t 3) T3,.v (.t 9) T83,.v (.t 10) T3,.v (.t 11) T3]
abbrev qiE:List (DEx×List It):=[(.exit 0,[.v (.t 0) T83,.v (.t 3) T3])]
noncomputable def qpW(n:Nat)(rec:qc qgi→Option (qk qiE))(s:qc qgi):Option (qk qiE):=(qq tab (qb0 n) (qpp n) (subC [true,true,false,true,false,false] (qa Try.f58)) 1 (mkS qgi 36 s)).run (Lp.leaf 36 qgi qiE rec)
noncomputable def qk4(n:Nat):Lp:=⟨36,qgi,qiE,qj n (qpW n)⟩
theorem qvH(n:Nat):qe (qb0 n).c (subC [true,true,false,true,false,false] (qa Try.f58)) 1=[]:=by kernel_rfl
theorem qub(n:Nat)(st:St)(r:DEx×St)(h:((qk4 n).go st).Is r):DA Try.prog false (.loop (subC [true,true,false,true,false,false] (qa Try.f58))) st r:=Lp.ok (L:=qk4 n) (B:=tab) (cs:=qb0 n) (lo:=qpp n) (id:=0) rfl (ql (qvH n) qf) (fun _ _=>rfl) h
noncomputable def qpq(n:Nat):Nat→St→PT (DEx×St):=fun _ _=>.fail
abbrev qgj:List It:=[.v (.t 25) T83,.v (.t 26) T3,.v (.t 27) T3,.row (.t 6) false T30 30]
abbrev qiF:List (DEx×List It):=[(.exit 2,[.row (.t 6) false T30 30])]
noncomputable def qpX(n:Nat)(rec:qc qgj→Option (qk qiF))(s:qc qgj):Option (qk qiF):=(qq tab (qb0 n) (qpq n) (subC [true,true,true,true,false,true,false,false] (qa Try.f58)) 2 (mkS qgj 36 s)).run (Lp.leaf 36 qgj qiF rec)
noncomputable def qk5(n:Nat):Lp:=⟨36,qgj,qiF,qj n (qpX n)⟩
theorem qvI(n:Nat):qe (qb0 n).c (subC [true,true,true,true,false,true,false,false] (qa Try.f58)) 2=[]:=by kernel_rfl
theorem quc(n:Nat)(st:St)(r:DEx×St)(h:((qk5 n).go st).Is r):DA Try.prog false (.loop (subC [true,true,true,true,false,true,false,false] (qa Try.f58))) st r:=Lp.ok (L:=qk5 n) (B:=tab) (cs:=qb0 n) (lo:=qpq n) (id:=1) rfl (ql (qvI n) qf) (fun _ _=>rfl) h
noncomputable def qpY(n:Nat):Nat→St→PT (DEx×St):=fun k st=>match k with
 | 0=>(qk4 n).go st
 | 1=>(qk5 n).go st
 | _=>.fail
theorem qwr(n:Nat):qe (qb0 n).c (qa Try.f58) 0=[(0,.loop (subC [true,true,false,true,false,false] (qa Try.f58))),(1,.loop (subC [true,true,true,true,false,true,false,false] (qa Try.f58)))]:=by kernel_rfl
theorem qws:Try.f58.body=some (qa Try.f58):=by kernel_rfl
abbrev qk6:List It:=[.v (.t 0) T83]
abbrev qks:List (List It):=[[.row (.t 0) false T30 30]]
noncomputable def qqn(n:Nat)(x:qc qk6):Option (qI qks):=runW tab (qb0 n) (qpY n) (qa Try.f58) qk6 1 36 [.tmp 2] qks x
noncomputable def qwt(n:Nat):Cw Try.prog:=⟨58,1,qk6,1,qks,qqn n,fun _ _ h=>qb2 (B:=tab) (cs:=qb0 n) (lo:=qpY n) (rs:=[.tmp 2]) Try.func58 (by kernel_rfl) qws (by kernel_rfl) (by decide) (ql (qwr n) (all_cons (fun st r h=>qub n st r h) (all_cons (fun st r h=>quc n st r h) qf))) h⟩
abbrev qF:List It:=[.v (.t 1) T3,.v (.t 2) T3,.v (.t 3) T3,.fn (.t 4) 60 [] [],.row (.t 0) true T30 30]
abbrev qC:List (List It):=[[.row (.t 0) true T30 30]]
abbrev qb:Type:={g:qc qF→Option (qI qC) // qDt Try.prog 94 5 qF 0 qC g}
noncomputable def qg(n:Nat)(g:qb):CL Try.prog:=⟨[qc4 n,qhs n],[qgN n,qgP n,qhU n,qgT n,qg0 n,qfm n,qgD n,qhI n,⟨94,5,qF,0,qC,g.1,g.2⟩],0,fun i=>Nat.beq i 39||Nat.beq i 56||Nat.beq i 75||Nat.beq i 97||Nat.beq i 125⟩
noncomputable def qgk(n:Nat)(g:qb):Nat→St→PT (DEx×St):=fun _ _=>.fail
abbrev qdr:List It:=[.v (.t 1) T3,.v (.t 2) T3,.v (.t 3) T3,.fn (.t 4) 60 [] [],.v (.t 10) T4,.v (.t 11) T4,.v (.t 12) T3,.v (.t 39) T4,.row (.t 0) true T30 30]
abbrev qds:List (DEx×List It):=[(.normal,[.v (.t 1) T3,.v (.t 2) T3,.v (.t 3) T3,.fn (.t 4) 60 [] [],.v (.t 10) T4,.v (.t 11) T4,.v (.t 12) T3,.row (.t 0) true T30 30])]
noncomputable def qhe(n:Nat)(g:qb)(x:qc qdr):Option (qk qds):=(qzj tab (qg n g) (qgk n g) (.tmp 39) (subC [true,true,false,false,false,true,true,true,false,true,false] (qa Try.f94)) (subC [true,true,false,false,false,true,true,true,false,true,true] (qa Try.f94)) 1 (mkS qdr 148 x)).run (fun r=>qmo 148 qds r.1 r.2)
noncomputable def qdt(n:Nat)(g:qb):Lp:=⟨148,qdr,qds,qhe n g⟩
theorem qlp(n:Nat)(g:qb):qul (qg n g).c (subC [true,true,false,false,false,true,true,true,false,true,false] (qa Try.f94)) (subC [true,true,false,false,false,true,true,true,false,true,true] (qa Try.f94)) 1=[]:=by kernel_rfl
theorem qkt(n:Nat)(g:qb)(st:St)(r:DEx×St)(h:((qdt n g).go st).Is r):DA Try.prog false (.cond (.tmp 39) (subC [true,true,false,false,false,true,true,true,false,true,false] (qa Try.f94)) (subC [true,true,false,false,false,true,true,true,false,true,true] (qa Try.f94))) st r:=Lp.okC (L:=qdt n g) (B:=tab) (cs:=qg n g) (lo:=qgk n g) (n:=1) (qCt (qlp n g) qf) (fun _=>rfl) h
noncomputable def qgl(n:Nat)(g:qb):Nat→St→PT (DEx×St):=fun _ _=>.fail
abbrev qdu:List It:=[.v (.t 1) T3,.v (.t 2) T3,.v (.t 3) T3,.fn (.t 4) 60 [] [],.v (.t 10) T4,.v (.t 11) T4,.v (.t 12) T3,.v (.t 13) T3,.v (.t 14) T118,.v (.t 56) T4,.row (.t 0) true T30 30]
abbrev qdv:List (DEx×List It):=[(.normal,[.v (.t 1) T3,.v (.t 2) T3,.v (.t 3) T3,.fn (.t 4) 60 [] [],.v (.t 10) T4,.v (.t 11) T4,.v (.t 12) T3,.v (.t 13) T3,.v (.t 14) T118,.row (.t 0) true T30 30])]
noncomputable def qhf(n:Nat)(g:qb)(x:qc qdu):Option (qk qdv):=(qzj tab (qg n g) (qgl n g) (.tmp 56) (subC [true,true,false,false,false,true,true,true,true,true,false,true,false] (qa Try.f94)) (subC [true,true,false,false,false,true,true,true,true,true,false,true,true] (qa Try.f94)) 1 (mkS qdu 148 x)).run (fun r=>qmo 148 qdv r.1 r.2)
noncomputable def qdw(n:Nat)(g:qb):Lp:=⟨148,qdu,qdv,qhf n g⟩
theorem qlq(n:Nat)(g:qb):qul (qg n g).c (subC [true,true,false,false,false,true,true,true,true,true,false,true,false] (qa Try.f94)) (subC [true,true,false,false,false,true,true,true,true,true,false,true,true] (qa Try.f94)) 1=[]:=by kernel_rfl
theorem qku(n:Nat)(g:qb)(st:St)(r:DEx×St)(h:((qdw n g).go st).Is r):DA Try.prog false (.cond (.tmp 56) (subC [true,true,false,false,false,true,true,true,true,true,false,true,false] (qa Try.f94)) (subC [true,true,false,false,false,true,true,true,true,true,false,true,true] (qa Try.f94))) st r:=Lp.okC (L:=qdw n g) (B:=tab) (cs:=qg n g) (lo:=qgl n g) (n:=1) (qCt (qlq n g) qf) (fun _=>rfl) h
noncomputable def qgm(n:Nat)(g:qb):Nat→St→PT (DEx×St):=fun _ _=>.fail
abbrev qdx:List It:=[.v (.t 1) T3,.v (.t 2) T3,.v (.t 3) T3,.fn (.t 4) 60 [] [],.v (.t 10) T4,.v (.t 11) T4,.v (.t 12) T3,.v (.t 13) T3,.v (.t 75) T4,.row (.t 0) true T30 30]
abbrev qdy:List (DEx×List It):=[(.normal,[.v (.t 1) T3,.v (.t 2) T3,.v (.t 3) T3,.fn (.t 4) 60 [] [],.v (.t 10) T4,.v (.t 11) T4,.v (.t 12) T3,.v (.t 13) T3,.row (.t 0) true T30 30]),(.ret,[.row (.t 0) true T30 30])]
noncomputable def qhg(n:Nat)(g:qb)(x:qc qdx):Option (qk qdy):=(qzj tab (qg n g) (qgm n g) (.tmp 75) (subC [true,true,false,false,false,true,true,true,true,true,true,false,true,false] (qa Try.f94)) (subC [true,true,false,false,false,true,true,true,true,true,true,false,true,true] (qa Try.f94)) 1 (mkS qdx 148 x)).run (fun r=>qmo 148 qdy r.1 r.2)
noncomputable def qdz(n:Nat)(g:qb):Lp:=⟨148,qdx,qdy,qhg n g⟩
theorem qlr(n:Nat)(g:qb):qul (qg n g).c (subC [true,true,false,false,false,true,true,true,true,true,true,false,true,false] (qa Try.f94)) (subC [true,true,false,false,false,true,true,true,true,true,true,false,true,true] (qa Try.f94)) 1=[]:=by kernel_rfl
theorem qkv(n:Nat)(g:qb)(st:St)(r:DEx×St)(h:((qdz n g).go st).Is r):DA Try.prog false (.cond (.tmp 75) (subC [true,true,false,false,false,true,true,true,true,true,true,false,true,false] (qa Try.f94)) (subC [true,true,false,false,false,true,true,true,true,true,true,false,true,true] (qa Try.f94))) st r:=Lp.okC (L:=qdz n g) (B:=tab) (cs:=qg n g) (lo:=qgm n g) (n:=1) (qCt (qlr n g) qf) (fun _=>rfl) h
noncomputable def qgn(n:Nat)(g:qb):Nat→St→PT (DEx×St):=fun _ _=>.fail
abbrev qdA:List It:=[.v (.t 1) T3,.v (.t 2) T3,.v (.t 3) T3,.fn (.t 4) 60 [] [],.v (.t 10) T4,.v (.t 11) T4,.v (.t 12) T3,.v (.t 13) T3,.v (.t 97) T4,.row (.t 0) true T30 30]
abbrev qdB:List (DEx×List It):=[(.normal,[.v (.t 1) T3,.v (.t 2) T3,.v (.t 3) T3,.fn (.t 4) 60 [] [],.v (.t 12) T3,.v (.t 13) T3,.row (.t 0) true T30 30]),(.exit 1,[.v (.t 1) T3,.v (.t 2) T3,.v (.t 3) T3,.fn (.t 4) 60 [] [],.v (.t 10) T4,.v (.t 11) T4,.row (.t 0) true T30 30])]
noncomputable def qhh(n:Nat)(g:qb)(x:qc qdA):Option (qk qdB):=(qzj tab (qg n g) (qgn n g) (.tmp 97) (subC [true,true,false,false,false,true,true,true,true,true,true,true,false,true,false] (qa Try.f94)) (subC [true,true,false,false,false,true,true,true,true,true,true,true,false,true,true] (qa Try.f94)) 1 (mkS qdA 148 x)).run (fun r=>qmo 148 qdB r.1 r.2)
noncomputable def qdC(n:Nat)(g:qb):Lp:=⟨148,qdA,qdB,qhh n g⟩
theorem qls(n:Nat)(g:qb):qul (qg n g).c (subC [true,true,false,false,false,true,true,true,true,true,true,true,false,true,false] (qa Try.f94)) (subC [true,true,false,false,false,true,true,true,true,true,true,true,false,true,true] (qa Try.f94)) 1=[]:=by kernel_rfl
theorem qkw(n:Nat)(g:qb)(st:St)(r:DEx×St)(h:((qdC n g).go st).Is r):DA Try.prog false (.cond (.tmp 97) (subC [true,true,false,false,false,true,true,true,true,true,true,true,false,true,false] (qa Try.f94)) (subC [true,true,false,false,false,true,true,true,true,true,true,true,false,true,true] (qa Try.f94))) st r:=Lp.okC (L:=qdC n g) (B:=tab) (cs:=qg n g) (lo:=qgn n g) (n:=1) (qCt (qls n g) qf) (fun _=>rfl) h
noncomputable def qgo(n:Nat)(g:qb):Nat→St→PT (DEx×St):=fun _ _=>.fail
abbrev qdD:List It:=[.v (.t 1) T3,.v (.t 2) T3,.v (.t 3) T3,.fn (.t 4) 60 [] [],.v (.t 11) T4,.v (.t 16) T3,.v (.t 18) T3,.v (.t 19) T3,.v (.t 20) T3,.v (.t 125) T4,.row (.t 0) true T30 30]
abbrev qdE:List (DEx×List It):=[(.normal,[.v (.t 1) T3,.v (.t 2) T3,.v (.t 3) T3,.fn (.t 4) 60 [] [],.v (.t 10) T4,.v (.t 11) T4,.row (.t 0) true T30 30])]
noncomputable def qg1(n:Nat)(g:qb)(x:qc qdD):Option (qk qdE):=(qzj tab (qg n g) (qgo n g) (.tmp 125) (subC [true,true,false,false,false,true,true,true,true,true,true,true,true,true,true,true,true,true,false] (qa Try.f94)) (subC [true,true,false,false,false,true,true,true,true,true,true,true,true,true,true,true,true,true,true] (qa Try.f94)) 1 (mkS qdD 148 x)).run (fun r=>qmo 148 qdE r.1 r.2)
noncomputable def qdF(n:Nat)(g:qb):Lp:=⟨148,qdD,qdE,qg1 n g⟩
theorem qlu(n:Nat)(g:qb):qul (qg n g).c (subC [true,true,false,false,false,true,true,true,true,true,true,true,true,true,true,true,true,true,false] (qa Try.f94)) (subC [true,true,false,false,false,true,true,true,true,true,true,true,true,true,true,true,true,true,true] (qa Try.f94)) 1=[]:=by kernel_rfl
theorem qkx(n:Nat)(g:qb)(st:St)(r:DEx×St)(h:((qdF n g).go st).Is r):DA Try.prog false (.cond (.tmp 125) (subC [true,true,false,false,false,true,true,true,true,true,true,true,true,true,true,true,true,true,false] (qa Try.f94)) (subC [true,true,false,false,false,true,true,true,true,true,true,true,true,true,true,true,true,true,true] (qa Try.f94))) st r:=Lp.okC (L:=qdF n g) (B:=tab) (cs:=qg n g) (lo:=qgo n g) (n:=1) (qCt (qlu n g) qf) (fun _=>rfl) h
noncomputable def qhJ(n:Nat)(g:qb):Nat→St→PT (DEx×St):=fun k st=>(match Nat.beq k 1000039 with
 | true=>(qdt n g).go st
 | false=>(match Nat.beq k 1000056 with
 | true=>(qdw n g).go st
 | false=>(match Nat.beq k 1000075 with
 | true=>(qdz n g).go st
 | false=>(match Nat.beq k 1000097 with
 | true=>(qdC n g).go st
 | false=>(match Nat.beq k 1000125 with
 | true=>(qdF n g).go st
 | false=>.fail)))))
abbrev qbN:List It:=[.v (.t 1) T3,.v (.t 2) T3,.v (.t 3) T3,.fn (.t 4) 60 [] [],.v (.t 10) T4,.v (.t 11) T4,.row (.t 0) true T30 30]
abbrev qcH:List (DEx×List It):=[(.ret,[.row (.t 0) true T30 30])]
noncomputable def qhV(n:Nat)(g:qb)(rec:qc qbN→Option (qk qcH))(s:qc qbN):Option (qk qcH):=(qq tab (qg n g) (qhJ n g) (subC [true,true,false,false] (qa Try.f94)) 1 (mkS qbN 148 s)).run (Lp.leaf 148 qbN qcH rec)
noncomputable def qeG(n:Nat)(g:qb):Lp:=⟨148,qbN,qcH,qj n (qhV n g)⟩
theorem qny(n:Nat)(g:qb):qe (qg n g).c (subC [true,true,false,false] (qa Try.f94)) 1=[(1000039,.cond (.tmp 39) (subC [true,true,false,false,false,true,true,true,false,true,false] (qa Try.f94)) (subC [true,true,false,false,false,true,true,true,false,true,true] (qa Try.f94))),(1000056,.cond (.tmp 56) (subC [true,true,false,false,false,true,true,true,true,true,false,true,false] (qa Try.f94)) (subC [true,true,false,false,false,true,true,true,true,true,false,true,true] (qa Try.f94))),(1000075,.cond (.tmp 75) (subC [true,true,false,false,false,true,true,true,true,true,true,false,true,false] (qa Try.f94)) (subC [true,true,false,false,false,true,true,true,true,true,true,false,true,true] (qa Try.f94))),(1000097,.cond (.tmp 97) (subC [true,true,false,false,false,true,true,true,true,true,true,true,false,true,false] (qa Try.f94)) (subC [true,true,false,false,false,true,true,true,true,true,true,true,false,true,true] (qa Try.f94))),(1000125,.cond (.tmp 125) (subC [true,true,false,false,false,true,true,true,true,true,true,true,true,true,true,true,true,true,false] (qa Try.f94)) (subC [true,true,false,false,false,true,true,true,true,true,true,true,true,true,true,true,true,true,true] (qa Try.f94)))]:=by kernel_rfl
theorem qmD(n:Nat)(g:qb)(st:St)(r:DEx×St)(h:((qeG n g).go st).Is r):DA Try.prog false (.loop (subC [true,true,false,false] (qa Try.f94))) st r:=Lp.ok (L:=qeG n g) (B:=tab) (cs:=qg n g) (lo:=qhJ n g) (id:=0) rfl (ql (qny n g) (all_cons (fun st r h=>qkt n g st r h) (all_cons (fun st r h=>qku n g st r h) (all_cons (fun st r h=>qkv n g st r h) (all_cons (fun st r h=>qkw n g st r h) (all_cons (fun st r h=>qkx n g st r h) qf)))))) (fun _ _=>rfl) h
noncomputable def qhW(n:Nat)(g:qb):Nat→St→PT (DEx×St):=fun k st=>match k with
 | 0=>(qeG n g).go st
 | _=>.fail
theorem qnN(n:Nat)(g:qb):qe (qg n g).c (qa Try.f94) 0=[(0,.loop (subC [true,true,false,false] (qa Try.f94)))]:=by kernel_rfl
theorem qnO:Try.f94.body=some (qa Try.f94):=by kernel_rfl
noncomputable def qeH(n:Nat)(g:qb)(x:qc qF):Option (qI qC):=runW tab (qg n g) (qhW n g) (qa Try.f94) qF 5 148 [] qC x
theorem qnz(n:Nat)(g:qb):qDt Try.prog 94 5 qF 0 qC (qeH n g):=fun _ _ h=>qb2 (B:=tab) (cs:=qg n g) (lo:=qhW n g) (rs:=[]) Try.func94 (by kernel_rfl) qnO (by kernel_rfl) (by decide) (ql (qnN n g) (all_cons (fun st r h=>qmD n g st r h) qf)) h
noncomputable def qB(n:Nat):Nat→qb
 | 0=>⟨fun _=>none,fun _ _ h=>by cases h⟩
 | k+1=>⟨qeH n (qB n k),qnz n (qB n k)⟩
noncomputable def qii(n:Nat)(x:qc qF):Option (qI qC):=(qB n n).1 x
noncomputable def qij(n:Nat):Cw Try.prog:=⟨94,5,qF,0,qC,qii n,(qB n n).2⟩
noncomputable def qfO(n:Nat):CL Try.prog:=⟨[qrC n,qc4 n],[qij n],0,fun _=>false⟩
noncomputable def qjs(n:Nat):Nat→St→PT (DEx×St):=fun _ _=>.fail
theorem qpZ(n:Nat):qe (qfO n).c (qa Try.f59) 0=[]:=by kernel_rfl
theorem qp0:Try.f59.body=some (qa Try.f59):=by kernel_rfl
abbrev qfP:List It:=[.fn (.t 1) 60 [] [],.row (.t 0) true T30 30]
abbrev qfA:List (List It):=[[.row (.t 0) true T30 30]]
noncomputable def qjE(n:Nat)(x:qc qfP):Option (qI qfA):=runW tab (qfO n) (qjs n) (qa Try.f59) qfP 2 14 [] qfA x
noncomputable def qjF(n:Nat):Cw Try.prog:=⟨59,2,qfP,0,qfA,qjE n,fun _ _ h=>qb2 (B:=tab) (cs:=qfO n) (lo:=qjs n) (rs:=[]) Try.func59 (by kernel_rfl) qp0 (by kernel_rfl) (by decide) (ql (qpZ n) qf) h⟩
abbrev qG:List It:=[.v (.t 1) T3,.v (.t 2) T3,.v (.t 3) T3,.fn (.t 4) 75 [] [],.row (.t 0) true T30 30]
abbrev qD:List (List It):=[[.row (.t 0) true T30 30]]
abbrev qn:Type:={g:qc qG→Option (qI qD) // qDt Try.prog 94 5 qG 0 qD g}
noncomputable def qba(n:Nat)(g:qn):CL Try.prog:=⟨[qvE n,qhs n],[qgN n,qgP n,qhU n,qgT n,qg0 n,qfm n,qgD n,qhI n,⟨94,5,qG,0,qD,g.1,g.2⟩],0,fun _=>false⟩
noncomputable def qhK(n:Nat)(g:qn):Nat→St→PT (DEx×St):=fun _ _=>.fail
abbrev qbO:List It:=[.v (.t 1) T3,.v (.t 2) T3,.v (.t 3) T3,.fn (.t 4) 75 [] [],.v (.t 10) T4,.v (.t 11) T4,.row (.t 0) true T30 30]
abbrev qcI:List (DEx×List It):=[(.ret,[.row (.t 0) true T30 30])]
noncomputable def qhX(n:Nat)(g:qn)(rec:qc qbO→Option (qk qcI))(s:qc qbO):Option (qk qcI):=(qq tab (qba n g) (qhK n g) (subC [true,true,false,false] (qa Try.f94)) 1 (mkS qbO 148 s)).run (Lp.leaf 148 qbO qcI rec)
noncomputable def qeI(n:Nat)(g:qn):Lp:=⟨148,qbO,qcI,qj n (qhX n g)⟩
theorem qnA(n:Nat)(g:qn):qe (qba n g).c (subC [true,true,false,false] (qa Try.f94)) 1=[]:=by kernel_rfl
theorem qmE(n:Nat)(g:qn)(st:St)(r:DEx×St)(h:((qeI n g).go st).Is r):DA Try.prog false (.loop (subC [true,true,false,false] (qa Try.f94))) st r:=Lp.ok (L:=qeI n g) (B:=tab) (cs:=qba n g) (lo:=qhK n g) (id:=0) rfl (ql (qnA n g) qf) (fun _ _=>rfl) h
noncomputable def qhY(n:Nat)(g:qn):Nat→St→PT (DEx×St):=fun k st=>match k with
 | 0=>(qeI n g).go st
 | _=>.fail
theorem qnP(n:Nat)(g:qn):qe (qba n g).c (qa Try.f94) 0=[(0,.loop (subC [true,true,false,false] (qa Try.f94)))]:=by kernel_rfl
theorem qnQ:Try.f94.body=some (qa Try.f94):=by kernel_rfl
noncomputable def qeJ(n:Nat)(g:qn)(x:qc qG):Option (qI qD):=runW tab (qba n g) (qhY n g) (qa Try.f94) qG 5 148 [] qD x
theorem qnB(n:Nat)(g:qn):qDt Try.prog 94 5 qG 0 qD (qeJ n g):=fun _ _ h=>qb2 (B:=tab) (cs:=qba n g) (lo:=qhY n g) (rs:=[]) Try.func94 (by kernel_rfl) qnQ (by kernel_rfl) (by decide) (ql (qnP n g) (all_cons (fun st r h=>qmE n g st r h) qf)) h
noncomputable def qQ(n:Nat):Nat→qn
 | 0=>⟨fun _=>none,fun _ _ h=>by cases h⟩
 | k+1=>⟨qeJ n (qQ n k),qnB n (qQ n k)⟩
noncomputable def qik(n:Nat)(x:qc qG):Option (qI qD):=(qQ n n).1 x
noncomputable def qnR(n:Nat):Cw Try.prog:=⟨94,5,qG,0,qD,qik n,(qQ n n).2⟩
noncomputable def qfQ(n:Nat):CL Try.prog:=⟨[qrC n,qvE n],[qij n,qnR n],0,fun _=>false⟩
noncomputable def qjt(n:Nat):Nat→St→PT (DEx×St):=fun _ _=>.fail
theorem qp1(n:Nat):qe (qfQ n).c (qa Try.f59) 0=[]:=by kernel_rfl
theorem qp2:Try.f59.body=some (qa Try.f59):=by kernel_rfl
abbrev qfR:List It:=[.fn (.t 1) 75 [] [],.row (.t 0) true T30 30]
abbrev qfB:List (List It):=[[.row (.t 0) true T30 30]]
noncomputable def qjG(n:Nat)(x:qc qfR):Option (qI qfB):=runW tab (qfQ n) (qjt n) (qa Try.f59) qfR 2 14 [] qfB x
noncomputable def qjH(n:Nat):Cw Try.prog:=⟨59,2,qfR,0,qfB,qjG n,fun _ _ h=>qb2 (B:=tab) (cs:=qfQ n) (lo:=qjt n) (rs:=[]) Try.func59 (by kernel_rfl) qp2 (by kernel_rfl) (by decide) (ql (qp1 n) qf) h⟩
noncomputable def qA(n:Nat):CL Try.prog:=⟨[qDN n],[],0,fun _=>false⟩
noncomputable def qhL(n:Nat):Nat→St→PT (DEx×St):=fun _ _=>.fail
abbrev qbP:List It:=[.fn (.t 1) 62 [] [],.v (.t 5) T3,.v (.t 7) T3,.row (.t 0) true T30 30,.sub (.t 6) 0]
abbrev qcJ:List (DEx×List It):=[(.exit 2,[.v (.t 5) T3,.row (.t 0) true T30 30])]
noncomputable def qhZ(n:Nat)(rec:qc qbP→Option (qk qcJ))(s:qc qbP):Option (qk qcJ):=(qq tab (qA n) (qhL n) (subC [true,true,false,true,false,false,true,false,false,true,false,true,false,true,false,false] (qa Try.f61)) 2 (mkS qbP 66 s)).run (Lp.leaf 66 qbP qcJ rec)
noncomputable def qeK(n:Nat):Lp:=⟨66,qbP,qcJ,qj n (qhZ n)⟩
theorem qnC(n:Nat):qe (qA n).c (subC [true,true,false,true,false,false,true,false,false,true,false,true,false,true,false,false] (qa Try.f61)) 2=[]:=by kernel_rfl
theorem qmF(n:Nat)(st:St)(r:DEx×St)(h:((qeK n).go st).Is r):DA Try.prog false (.loop (subC [true,true,false,true,false,false,true,false,false,true,false,true,false,true,false,false] (qa Try.f61))) st r:=Lp.ok (L:=qeK n) (B:=tab) (cs:=qA n) (lo:=qhL n) (id:=1) rfl (ql (qnC n) qf) (fun _ _=>rfl) h
noncomputable def qhM(n:Nat):Nat→St→PT (DEx×St):=fun k st=>match k with
 | 1=>(qeK n).go st
 | _=>.fail
abbrev qbQ:List It:=[.fn (.t 1) 62 [] [],.v (.t 5) T3,.row (.t 0) true T30 30]
abbrev qcK:List (DEx×List It):=[(.exit 0,[.row (.t 0) true T30 30]),(.ret,[.row (.t 0) true T30 30,.sub (.t 4) 0])]
noncomputable def qh0(n:Nat)(rec:qc qbQ→Option (qk qcK))(s:qc qbQ):Option (qk qcK):=(qq tab (qA n) (qhM n) (subC [true,true,false,true,false,false] (qa Try.f61)) 1 (mkS qbQ 66 s)).run (Lp.leaf 66 qbQ qcK rec)
noncomputable def qeL(n:Nat):Lp:=⟨66,qbQ,qcK,qj n (qh0 n)⟩
theorem qnD(n:Nat):qe (qA n).c (subC [true,true,false,true,false,false] (qa Try.f61)) 1=[(1,.loop (subC [true,true,false,true,false,false,true,false,false,true,false,true,false,true,false,false] (qa Try.f61)))]:=by kernel_rfl
theorem qmG(n:Nat)(st:St)(r:DEx×St)(h:((qeL n).go st).Is r):DA Try.prog false (.loop (subC [true,true,false,true,false,false] (qa Try.f61))) st r:=Lp.ok (L:=qeL n) (B:=tab) (cs:=qA n) (lo:=qhM n) (id:=0) rfl (ql (qnD n) (all_cons (fun st r h=>qmF n st r h) qf)) (fun _ _=>rfl) h
noncomputable def qh1(n:Nat):Nat→St→PT (DEx×St):=fun k st=>match k with
 | 0=>(qeL n).go st
 | _=>.fail
theorem qnS(n:Nat):qe (qA n).c (qa Try.f61) 0=[(0,.loop (subC [true,true,false,true,false,false] (qa Try.f61)))]:=by kernel_rfl
theorem qnT:Try.f61.body=some (qa Try.f61):=by kernel_rfl
abbrev qeM:List It:=[.fn (.t 1) 62 [] [],.row (.t 0) true T30 30]
abbrev qew:List (List It):=[[.row (.t 1) true T30 30,.sub (.t 0) 0]]
noncomputable def qil(n:Nat)(x:qc qeM):Option (qI qew):=runW tab (qA n) (qh1 n) (qa Try.f61) qeM 2 66 [.tmp 4] qew x
noncomputable def qnU(n:Nat):Cw Try.prog:=⟨61,2,qeM,1,qew,qil n,fun _ _ h=>qb2 (B:=tab) (cs:=qA n) (lo:=qh1 n) (rs:=[.tmp 4]) Try.func61 (by kernel_rfl) qnT (by kernel_rfl) (by decide) (ql (qnS n) (all_cons (fun st r h=>qmG n st r h) qf)) h⟩
noncomputable def qbi(n:Nat):CL Try.prog:=⟨[],[qzs n],0,fun _=>false⟩
noncomputable def qh2(n:Nat):Nat→St→PT (DEx×St):=fun _ _=>.fail
abbrev qbR:List It:=[.v (.t 7) T3,.v (.t 8) T3,.row (.t 0) true T30 30,.fnc (.t 1) 72 [.box true 25 1],.v (.c 1 0) T25]
abbrev qcO:List (DEx×List It):=[(.exit 0,[.row (.t 0) true T30 30,.fnc (.t 1) 72 [.box true 25 1],.v (.c 1 0) T25]),(.ret,[.v (.t 4) T3,.row (.t 0) true T30 30,.fnc (.t 1) 72 [.box true 25 1],.v (.c 1 0) T25])]
noncomputable def qim(n:Nat)(rec:qc qbR→Option (qk qcO))(s:qc qbR):Option (qk qcO):=(qq tab (qbi n) (qh2 n) (subC [true,false,true,false,false] (qa Try.f64)) 1 (mkS qbR 19 s)).run (Lp.leaf 19 qbR qcO rec)
noncomputable def qeY(n:Nat):Lp:=⟨19,qbR,qcO,qj n (qim n)⟩
theorem qnV(n:Nat):qe (qbi n).c (subC [true,false,true,false,false] (qa Try.f64)) 1=[]:=by kernel_rfl
theorem qm0(n:Nat)(st:St)(r:DEx×St)(h:((qeY n).go st).Is r):DA Try.prog false (.loop (subC [true,false,true,false,false] (qa Try.f64))) st r:=Lp.ok (L:=qeY n) (B:=tab) (cs:=qbi n) (lo:=qh2 n) (id:=0) rfl (ql (qnV n) qf) (fun _ _=>rfl) h
noncomputable def qin(n:Nat):Nat→St→PT (DEx×St):=fun k st=>match k with
 | 0=>(qeY n).go st
 | _=>.fail
theorem qoi(n:Nat):qe (qbi n).c (qa Try.f64) 0=[(0,.loop (subC [true,false,true,false,false] (qa Try.f64)))]:=by kernel_rfl
theorem qoj:Try.f64.body=some (qa Try.f64):=by kernel_rfl
abbrev qeZ:List It:=[.row (.t 0) true T30 30,.fnc (.t 1) 72 [.box true 25 1],.v (.c 1 0) T25]
abbrev qeN:List (List It):=[[.v (.t 0) T3,.row (.t 1) true T30 30,.obj (.t 2) true 25 1,.v (.c 1 0) T25]]
noncomputable def qix(n:Nat)(x:qc qeZ):Option (qI qeN):=runW tab (qbi n) (qin n) (qa Try.f64) qeZ 2 19 [.tmp 4] qeN x
noncomputable def qiy(n:Nat):Cw Try.prog:=⟨64,2,qeZ,1,qeN,qix n,fun _ _ h=>qb2 (B:=tab) (cs:=qbi n) (lo:=qin n) (rs:=[.tmp 4]) Try.func64 (by kernel_rfl) qoj (by kernel_rfl) (by decide) (ql (qoi n) (all_cons (fun st r h=>qm0 n st r h) qf)) h⟩
noncomputable def qbu(n:Nat):CL Try.prog:=⟨[],[qiy n,qfo n,qzs n],0,fun _=>false⟩
noncomputable def qiN(n:Nat):Nat→St→PT (DEx×St):=fun _ _=>.fail
abbrev qcb:List It:=[.v (.t 5) T3,.v (.t 6) T3,.row (.t 0) true T30 30,.fnc (.t 1) 72 [.box true 25 1],.v (.c 1 0) T25]
abbrev qc2:List (DEx×List It):=[(.exit 0,[.v (.t 5) T3,.row (.t 0) true T30 30,.fnc (.t 1) 72 [.box true 25 1],.v (.c 1 0) T25])]
noncomputable def qiX(n:Nat)(rec:qc qcb→Option (qk qc2))(s:qc qcb):Option (qk qc2):=(qq tab (qbu n) (qiN n) (subC [true,true,true,false,true,false,false] (qa Try.f70)) 1 (mkS qcb 42 s)).run (Lp.leaf 42 qcb qc2 rec)
noncomputable def qfq(n:Nat):Lp:=⟨42,qcb,qc2,qj n (qiX n)⟩
theorem qoR(n:Nat):qe (qbu n).c (subC [true,true,true,false,true,false,false] (qa Try.f70)) 1=[]:=by kernel_rfl
theorem qnW(n:Nat)(st:St)(r:DEx×St)(h:((qfq n).go st).Is r):DA Try.prog false (.loop (subC [true,true,true,false,true,false,false] (qa Try.f70))) st r:=Lp.ok (L:=qfq n) (B:=tab) (cs:=qbu n) (lo:=qiN n) (id:=0) rfl (ql (qoR n) qf) (fun _ _=>rfl) h
noncomputable def qiY(n:Nat):Nat→St→PT (DEx×St):=fun k st=>match k with
 | 0=>(qfq n).go st
 | _=>.fail
theorem qpb(n:Nat):qe (qbu n).c (qa Try.f70) 0=[(0,.loop (subC [true,true,true,false,true,false,false] (qa Try.f70)))]:=by kernel_rfl
theorem qpc:Try.f70.body=some (qa Try.f70):=by kernel_rfl
abbrev qfr:List It:=[.row (.t 0) true T30 30,.fnc (.t 1) 72 [.box true 25 1],.v (.c 1 0) T25]
abbrev qfi:List (List It):=[[.row (.t 1) true T30 30,.obj (.t 2) true 25 1,.v (.c 1 0) T25,.sub (.t 0) 0]]
noncomputable def qjc(n:Nat)(x:qc qfr):Option (qI qfi):=runW tab (qbu n) (qiY n) (qa Try.f70) qfr 2 42 [.tmp 4] qfi x
noncomputable def qpd(n:Nat):Cw Try.prog:=⟨70,2,qfr,1,qfi,qjc n,fun _ _ h=>qb2 (B:=tab) (cs:=qbu n) (lo:=qiY n) (rs:=[.tmp 4]) Try.func70 (by kernel_rfl) qpc (by kernel_rfl) (by decide) (ql (qpb n) (all_cons (fun st r h=>qnW n st r h) qf)) h⟩
abbrev qcg:List It:=[.v (.t 1) T3,.v (.t 2) T3,.v (.t 3) T3,.row (.t 0) true T3 3]
abbrev qcc:List (List It):=[[.row (.t 0) true T3 3]]
abbrev qK:Type:={g:qc qcg→Option (qI qcc) // qDt Try.prog 54 4 qcg 0 qcc g}
noncomputable def qeo(n:Nat)(g:qK):CL Try.prog:=⟨[qAe n],[qsV n,⟨54,4,qcg,0,qcc,g.1,g.2⟩],0,fun _=>false⟩
noncomputable def qoS(n:Nat)(g:qK):Nat→St→PT (DEx×St):=fun _ _=>.fail
abbrev qfK:List It:=[.v (.t 1) T3,.v (.t 2) T3,.v (.t 3) T3,.v (.t 8) T4,.v (.t 9) T4,.row (.t 0) true T3 3]
abbrev qh7:List (DEx×List It):=[(.ret,[.row (.t 0) true T3 3])]
noncomputable def qpr(n:Nat)(g:qK)(rec:qc qfK→Option (qk qh7))(s:qc qfK):Option (qk qh7):=(qq tab (qeo n g) (qoS n g) (subC [true,true,false,false] (qa Try.f54)) 1 (mkS qfK 134 s)).run (Lp.leaf 134 qfK qh7 rec)
noncomputable def qky(n:Nat)(g:qK):Lp:=⟨134,qfK,qh7,qj n (qpr n g)⟩
theorem qu4(n:Nat)(g:qK):qe (qeo n g).c (subC [true,true,false,false] (qa Try.f54)) 1=[]:=by kernel_rfl
theorem qtG(n:Nat)(g:qK)(st:St)(r:DEx×St)(h:((qky n g).go st).Is r):DA Try.prog false (.loop (subC [true,true,false,false] (qa Try.f54))) st r:=Lp.ok (L:=qky n g) (B:=tab) (cs:=qeo n g) (lo:=qoS n g) (id:=0) rfl (ql (qu4 n g) qf) (fun _ _=>rfl) h
noncomputable def qps(n:Nat)(g:qK):Nat→St→PT (DEx×St):=fun k st=>match k with
 | 0=>(qky n g).go st
 | _=>.fail
theorem qvJ(n:Nat)(g:qK):qe (qeo n g).c (qa Try.f54) 0=[(0,.loop (subC [true,true,false,false] (qa Try.f54)))]:=by kernel_rfl
theorem qvK:Try.f54.body=some (qa Try.f54):=by kernel_rfl
noncomputable def qkz(n:Nat)(g:qK)(x:qc qcg):Option (qI qcc):=runW tab (qeo n g) (qps n g) (qa Try.f54) qcg 4 134 [] qcc x
theorem qu5(n:Nat)(g:qK):qDt Try.prog 54 4 qcg 0 qcc (qkz n g):=fun _ _ h=>qb2 (B:=tab) (cs:=qeo n g) (lo:=qps n g) (rs:=[]) Try.func54 (by kernel_rfl) qvK (by kernel_rfl) (by decide) (ql (qvJ n g) (all_cons (fun st r h=>qtG n g st r h) qf)) h
noncomputable def qdd(n:Nat):Nat→qK
 | 0=>⟨fun _=>none,fun _ _ h=>by cases h⟩
 | k+1=>⟨qkz n (qdd n k),qu5 n (qdd n k)⟩
noncomputable def qp3(n:Nat)(x:qc qcg):Option (qI qcc):=(qdd n n).1 x
noncomputable def qvL(n:Nat):Cw Try.prog:=⟨54,4,qcg,0,qcc,qp3 n,(qdd n n).2⟩
noncomputable def qrl(n:Nat):CL Try.prog:=⟨[qrC n],[qvL n],0,fun _=>false⟩
noncomputable def qvc(n:Nat):Nat→St→PT (DEx×St):=fun _ _=>.fail
theorem qCK(n:Nat):qe (qrl n).c (qa Try.f33) 0=[]:=by kernel_rfl
theorem qCL:Try.f33.body=some (qa Try.f33):=by kernel_rfl
abbrev qrm:List It:=[.row (.t 0) true T3 3]
abbrev qqL:List (List It):=[[.row (.t 0) true T3 3]]
noncomputable def qwu(n:Nat)(x:qc qrm):Option (qI qqL):=runW tab (qrl n) (qvc n) (qa Try.f33) qrm 1 11 [] qqL x
noncomputable def qCM(n:Nat):Cw Try.prog:=⟨33,1,qrm,0,qqL,qwu n,fun _ _ h=>qb2 (B:=tab) (cs:=qrl n) (lo:=qvc n) (rs:=[]) Try.func33 (by kernel_rfl) qCL (by kernel_rfl) (by decide) (ql (qCK n) qf) h⟩
noncomputable def qs5(n:Nat):CL Try.prog:=⟨[],[qwt n,qjF n,qjH n,qnU n],1,fun _=>false⟩
noncomputable def qxl(n:Nat):Nat→St→PT (DEx×St):=fun _ _=>.fail
theorem qEA(n:Nat):qe (qs5 n).c (qa Try.f39) 0=[]:=by kernel_rfl
theorem qEB:Try.f39.body=some (qa Try.f39):=by kernel_rfl
abbrev qs6:List It:=[.v (.t 0) T83]
abbrev qsg:List (List It):=[[.row (.t 0) false T30 30]]
noncomputable def qyp(n:Nat)(x:qc qs6):Option (qI qsg):=runW tab (qs5 n) (qxl n) (qa Try.f39) qs6 1 10 [.tmp 2] qsg x
noncomputable def qtH(n:Nat):Cw Try.prog:=⟨39,1,qs6,1,qsg,qyp n,fun _ _ h=>qb2 (B:=tab) (cs:=qs5 n) (lo:=qxl n) (rs:=[.tmp 2]) Try.func39 (by kernel_rfl) qEB (by kernel_rfl) (by decide) (ql (qEA n) qf) h⟩
noncomputable def qng(n:Nat):CL Try.prog:=⟨[qBq n],[],0,fun _=>false⟩
noncomputable def qrH(n:Nat):Nat→St→PT (DEx×St):=fun _ _=>.fail
theorem qyq(n:Nat):qe (qng n).c (qa Try.f91) 0=[]:=by kernel_rfl
theorem qyr:Try.f91.body=some (qa Try.f91):=by kernel_rfl
abbrev qnh:List It:=[.v (.t 0) T30,.obj (.t 1) true 69 2,.v (.c 0 0) T69]
abbrev qmH:List (List It):=[[.v (.t 0) T4,.obj (.t 1) true 69 2,.v (.c 0 0) T69]]
noncomputable def qsh(n:Nat)(x:qc qnh):Option (qI qmH):=runW tab (qng n) (qrH n) (qa Try.f91) qnh 2 8 [.tmp 3] qmH x
noncomputable def qsi(n:Nat):Cw Try.prog:=⟨91,2,qnh,1,qmH,qsh n,fun _ _ h=>qb2 (B:=tab) (cs:=qng n) (lo:=qrH n) (rs:=[.tmp 3]) Try.func91 (by kernel_rfl) qyr (by kernel_rfl) (by decide) (ql (qyq n) qf) h⟩
noncomputable def qX(n:Nat):CL Try.prog:=⟨[],[qsi n],0,fun _=>false⟩
noncomputable def qgU(n:Nat):Nat→St→PT (DEx×St):=fun _ _=>.fail
abbrev qbt:List It:=[.v (.t 0) T25,.v (.t 7) T3,.v (.t 8) T3,.fnc (.t 1) 91 [.box true 69 2],.v (.c 0 0) T69]
abbrev qce:List (DEx×List It):=[(.exit 0,[.fnc (.t 1) 91 [.box true 69 2],.v (.c 0 0) T69]),(.ret,[.v (.t 4) T3,.fnc (.t 1) 91 [.box true 69 2],.v (.c 0 0) T69])]
noncomputable def qg2(n:Nat)(rec:qc qbt→Option (qk qce))(s:qc qbt):Option (qk qce):=(qq tab (qX n) (qgU n) (subC [true,false,true,false,false] (qa Try.f64)) 1 (mkS qbt 19 s)).run (Lp.leaf 19 qbt qce rec)
noncomputable def qdQ(n:Nat):Lp:=⟨19,qbt,qce,qj n (qg2 n)⟩
theorem qmi(n:Nat):qe (qX n).c (subC [true,false,true,false,false] (qa Try.f64)) 1=[]:=by kernel_rfl
theorem qk7(n:Nat)(st:St)(r:DEx×St)(h:((qdQ n).go st).Is r):DA Try.prog false (.loop (subC [true,false,true,false,false] (qa Try.f64))) st r:=Lp.ok (L:=qdQ n) (B:=tab) (cs:=qX n) (lo:=qgU n) (id:=0) rfl (ql (qmi n) qf) (fun _ _=>rfl) h
noncomputable def qg3(n:Nat):Nat→St→PT (DEx×St):=fun k st=>match k with
 | 0=>(qdQ n).go st
 | _=>.fail
theorem qmI(n:Nat):qe (qX n).c (qa Try.f64) 0=[(0,.loop (subC [true,false,true,false,false] (qa Try.f64)))]:=by kernel_rfl
theorem qmJ:Try.f64.body=some (qa Try.f64):=by kernel_rfl
abbrev qdR:List It:=[.v (.t 0) T25,.fnc (.t 1) 91 [.box true 69 2],.v (.c 0 0) T69]
abbrev qdM:List (List It):=[[.v (.t 0) T3,.obj (.t 1) true 69 2,.v (.c 0 0) T69]]
noncomputable def qhi(n:Nat)(x:qc qdR):Option (qI qdM):=runW tab (qX n) (qg3 n) (qa Try.f64) qdR 2 19 [.tmp 4] qdM x
noncomputable def qmK(n:Nat):Cw Try.prog:=⟨64,2,qdR,1,qdM,qhi n,fun _ _ h=>qb2 (B:=tab) (cs:=qX n) (lo:=qg3 n) (rs:=[.tmp 4]) Try.func64 (by kernel_rfl) qmJ (by kernel_rfl) (by decide) (ql (qmI n) (all_cons (fun st r h=>qk7 n st r h) qf)) h⟩
noncomputable def qde(n:Nat):CL Try.prog:=⟨[],[qiy n,qfo n,qmK n,qsi n],0,fun _=>false⟩
noncomputable def qgp(n:Nat):Nat→St→PT (DEx×St):=fun _ _=>.fail
theorem qlv(n:Nat):qe (qde n).c (qa Try.f73) 0=[]:=by kernel_rfl
theorem qlw:Try.f73.body=some (qa Try.f73):=by kernel_rfl
abbrev qdf:List It:=[.v (.t 0) T25,.fnc (.t 1) 91 [.box true 69 2],.v (.c 0 0) T69]
abbrev qc0:List (List It):=[[.v (.t 0) T4,.obj (.t 1) true 69 2,.v (.c 0 0) T69]]
noncomputable def qgG(n:Nat)(x:qc qdf):Option (qI qc0):=runW tab (qde n) (qgp n) (qa Try.f73) qdf 2 9 [.tmp 4] qc0 x
noncomputable def qlx(n:Nat):Cw Try.prog:=⟨73,2,qdf,1,qc0,qgG n,fun _ _ h=>qb2 (B:=tab) (cs:=qde n) (lo:=qgp n) (rs:=[.tmp 4]) Try.func73 (by kernel_rfl) qlw (by kernel_rfl) (by decide) (ql (qlv n) qf) h⟩
noncomputable def qpe(n:Nat):CL Try.prog:=⟨[qCG n],[qtH n,qif n,qlx n],1,fun _=>false⟩
noncomputable def qti(n:Nat):Nat→St→PT (DEx×St):=fun _ _=>.fail
theorem qAk(n:Nat):qe (qpe n).c (qa Try.f57) 0=[]:=by kernel_rfl
theorem qAl:Try.f57.body=some (qa Try.f57):=by kernel_rfl
abbrev qp4:List Ar:=[.d T69,.d T25]
abbrev qp5:List Ty:=[T33]
noncomputable def qt3(n:Nat)(x:qR qp4):Option (qu qp5):=(qq tab (qpe n) (qti n) (qa Try.f57) 0 (qbc qp4 19 x)).run (qcR tab [.tmp 4] qp5)
noncomputable def qAm(n:Nat):Ct Try.prog:=⟨57,qp4,.ts qp5,qt3 n,fun _ _ h=>qcV (B:=tab) (cs:=qpe n) (lo:=qti n) (rs:=[.tmp 4]) Try.func57 (by kernel_rfl) qAl (by kernel_rfl) (by decide) (ql (qAk n) qf) h⟩
noncomputable def qwR(n:Nat):CL Try.prog:=⟨[qFm n,qAm n],[],0,fun _=>false⟩
noncomputable def qBS(n:Nat):Nat→St→PT (DEx×St):=fun _ _=>.fail
theorem qH3(n:Nat):qe (qwR n).c (qa Try.f38) 0=[]:=by kernel_rfl
theorem qH4:Try.f38.body=some (qa Try.f38):=by kernel_rfl
abbrev qys:List Ar:=[.d T24,.d T25]
abbrev qyt:List Ty:=[T33]
noncomputable def qCN(n:Nat)(x:qR qys):Option (qu qyt):=(qq tab (qwR n) (qBS n) (qa Try.f38) 0 (qbc qys 14 x)).run (qcR tab [.tmp 4] qyt)
noncomputable def qCO(n:Nat):Ct Try.prog:=⟨38,qys,.ts qyt,qCN n,fun _ _ h=>qcV (B:=tab) (cs:=qwR n) (lo:=qBS n) (rs:=[.tmp 4]) Try.func38 (by kernel_rfl) qH4 (by kernel_rfl) (by decide) (ql (qH3 n) qf) h⟩
end Go.Proofs.Ytcjgodgpaokbnaa
