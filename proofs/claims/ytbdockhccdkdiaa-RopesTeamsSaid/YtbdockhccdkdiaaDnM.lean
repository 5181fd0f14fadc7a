/- Printed: what functions of the program compute. -/
import Derived.Test.YtbdockhccdkdiaaNh
set_option linter.constructorNameAsVariable false
set_option linter.unusedSimpArgs false
set_option linter.unusedVariables false
set_option linter.unusedSectionVars false
namespace Go.Proofs.Ytbdockhccdkdiaa
open Go Go.Proofs Go.RowKit
set_option maxRecDepth 20000
noncomputable section
section
def qh7(n:Nat):CL Try.prog:=⟨[qdO n],[],0,nof⟩
def qh8(n:Nat):LK Try.prog false:=mkL tab (qh7 n) [] Try.f45 [true,true,false,true,false,false] 0 n [.v (.t 3) T3,.obj (.t 1) false 44 4,.v (.c 0 0) T44] [(.exit 0,[]),(.ret,[.v (.t 2) T4])] (by kernel_rfl)
def qin(n:Nat):Ct Try.prog:=mkC tab (qh7 n) [qh8 n] Try.func45 [.d T44] [T4] (by kernel_rfl)
def qio(n:Nat):CL Try.prog:=⟨[qdO n,qiO n],[],0,nof⟩
def qip(n:Nat):LK Try.prog false:=mkL tab (qio n) [] Try.f46 [true,true,false,true,false,false] 0 n [.v (.t 3) T3,.obj (.t 1) false 60 4,.v (.c 0 0) T60] [(.exit 0,[]),(.ret,[.v (.t 2) T4])] (by kernel_rfl)
def qiX(n:Nat):Ct Try.prog:=mkC tab (qio n) [qip n] Try.func46 [.d T60] [T4] (by kernel_rfl)
def qdQ(n:Nat):CL Try.prog:=⟨[qdO n,qin n,qiX n],[],0,nof⟩
def qiY(n:Nat):LK Try.prog false:=mkL tab (qdQ n) [] Try.f15 [true,true,false,true,false,false] 0 n [.v (.t 3) T3,.obj (.t 1) false 47 10,.v (.c 0 0) T47] [(.exit 0,[.obj (.t 1) false 47 10,.v (.c 0 0) T47]),(.ret,[.v (.t 2) T26])] (by kernel_rfl)
def qiZ(n:Nat):LK Try.prog false:=mkL tab (qdQ n) [] Try.f15 [true,true,true,true,false,true,false,false] 1 n [.v (.t 4) T3,.obj (.t 1) false 47 10,.v (.c 0 0) T47] [(.exit 2,[.obj (.t 1) false 47 10,.v (.c 0 0) T47]),(.ret,[.v (.t 2) T26])] (by kernel_rfl)
def qi0(n:Nat):LK Try.prog false:=mkL tab (qdQ n) [] Try.f15 [true,true,true,true,true,false,true,false,false] 2 n [.v (.t 6) T3,.obj (.t 1) false 47 10,.v (.c 0 0) T47] [(.exit 4,[.obj (.t 1) false 47 10,.v (.c 0 0) T47]),(.ret,[.v (.t 2) T26])] (by kernel_rfl)
def qi1(n:Nat):LK Try.prog false:=mkL tab (qdQ n) [] Try.f15 [true,true,true,true,true,true,false,true,false,false] 3 n [.v (.t 7) T3,.obj (.t 1) false 47 10,.v (.c 0 0) T47] [(.exit 6,[]),(.ret,[.v (.t 2) T26])] (by kernel_rfl)
def qfa(n:Nat):Ct Try.prog:=mkC tab (qdQ n) [qiY n,qiZ n,qi0 n,qi1 n] Try.func15 [.d T47] [T26] (by kernel_rfl)
def qmC(n:Nat):CL Try.prog:=⟨[],[],0,nof⟩
def qi2(n:Nat):Ct Try.prog:=mkC tab (qmC n) [] Try.func97 [.d T3,.d T3] [T3] (by kernel_rfl)
def qjr(n:Nat):CL Try.prog:=⟨[],[],0,nof⟩
def qjs(n:Nat):LK Try.prog false:=mkL tab (qjr n) [] Try.f96 [true,true,false,true,false,false] 0 n [.v (.t 1) T3,.v (.t 5) T3,.v (.t 6) T3,.obj (.t 2) false 44 4,.v (.c 0 0) T44] [(.exit 0,[.v (.t 5) T3])] (by kernel_rfl)
def qjL(n:Nat):Ct Try.prog:=mkC tab (qjr n) [qjs n] Try.func96 [.d T44,.d T3] [T3] (by kernel_rfl)
def qiq(n:Nat):CL Try.prog:=⟨[qjL n,qi2 n],[],0,nof⟩
def qir(n:Nat):LK Try.prog false:=mkL tab (qiq n) [] Try.f81 [true,true,false,true,false,false] 0 n [.v (.t 2) T3,.v (.t 8) T3,.obj (.t 3) false 44 4,.v (.c 0 0) T44,.obj (.t 4) false 60 4,.v (.c 1 0) T60,.obj (.t 6) false 30 2,.v (.c 2 0) T30,.obj (.t 7) false 30 2,.v (.c 3 0) T30] [(.exit 0,[.obj (.t 6) false 30 2,.v (.c 0 0) T30,.obj (.t 7) false 30 2,.v (.c 1 0) T30])] (by kernel_rfl)
def qi3(n:Nat):Ct Try.prog:=mkC tab (qiq n) [qir n] Try.func81 [.d T44,.d T60,.d T3] [T30] (by kernel_rfl)
def qnd(n:Nat):CL Try.prog:=⟨[],[],0,nof⟩
def qjt(n:Nat):Ct Try.prog:=mkC tab (qnd n) [] Try.func80 [.d T44,.d T60,.d T3,.d T3] [T4] (by kernel_rfl)
def qju(n:Nat):CL Try.prog:=⟨[],[],0,nof⟩
def qjv(n:Nat):LK Try.prog false:=mkL tab (qju n) [] Try.f51 [true,false,true,false,false] 0 n [.v (.t 1) T23,.v (.t 2) T3,.v (.t 6) T3,.v (.t 7) T3,.v (.t 8) T3,.obj (.t 3) false 47 10,.v (.c 0 0) T47] [(.exit 0,[.v (.t 6) T3,.v (.t 7) T3])] (by kernel_rfl)
def qfD(n:Nat):Ct Try.prog:=mkC tab (qju n) [qjv n] Try.func51 [.d T47,.d T23,.d T3] [T3,T3] (by kernel_rfl)
def qne(n:Nat):CL Try.prog:=⟨[],[],0,nof⟩
def qgP(n:Nat):Ct Try.prog:=mkC tab (qne n) [] Try.func52 [.d T47,.d T3] [T4] (by kernel_rfl)
def qmD(n:Nat):CL Try.prog:=⟨[qjt n,qi3 n],[],0,nof⟩
def qgq(n:Nat):Ct Try.prog:=mkC tab (qmD n) [] Try.func54 [.d T47,.d T3,.d T3] [T4] (by kernel_rfl)
def qjM(n:Nat):CL Try.prog:=⟨[],[],0,nof⟩
def qjN(n:Nat):LK Try.prog false:=mkL tab (qjM n) [] Try.f53 [true,false,true,false,false] 0 n [.v (.t 0) T23,.v (.t 1) T3,.v (.t 5) T3] [(.exit 0,[]),(.ret,[.v (.t 4) T4])] (by kernel_rfl)
def qf3(n:Nat):Ct Try.prog:=mkC tab (qjM n) [qjN n] Try.func53 [.d T23,.d T3] [T4] (by kernel_rfl)
def qfx(n:Nat):CL Try.prog:=⟨[qdO n,qfD n,qgP n,qf3 n,qgq n],[],0,nof⟩
def qhJ(n:Nat):LK Try.prog false:=mkL tab (qfx n) [] Try.f19 [true,true,false,true,false,false] 0 n [.v (.t 1) T23,.v (.t 2) T23,.v (.t 7) T3,.obj (.t 3) false 47 10,.v (.c 0 0) T47] [(.exit 0,[.v (.t 1) T23,.v (.t 2) T23,.obj (.t 3) false 47 10,.v (.c 0 0) T47]),(.ret,[.v (.t 6) T4])] (by kernel_rfl)
def qhK(n:Nat):LK Try.prog false:=mkL tab (qfx n) [] Try.f19 [true,true,true,false,true,false,false] 1 n [.v (.t 1) T23,.v (.t 2) T23,.v (.t 8) T3,.obj (.t 3) false 47 10,.v (.c 0 0) T47] [(.exit 2,[]),(.ret,[.v (.t 6) T4])] (by kernel_rfl)
def qh9(n:Nat):Ct Try.prog:=mkC tab (qfx n) [qhJ n,qhK n] Try.func19 [.d T47,.d T23,.d T23] [T4] (by kernel_rfl)
abbrev qbS:List It:=[.v (.t 0) T47,.v (.t 1) T23,.v (.t 2) T3,.v (.t 3) T23]
abbrev qbw:List (List It):=[[.v (.t 0) T4]]
abbrev qw:Type:={g:qg qbS→Option (qcd qbw) // qsh Try.prog 79 4 qbS 1 qbw g}
def qc5(n:Nat)(g:qw):CL Try.prog:=⟨[qfD n,qf3 n,qgq n],[⟨79,4,qbS,1,qbw,g.1,g.2⟩],0,fun _=>false⟩
def qis(n:Nat)(g:qw):Nat→St→PT (DEx×St):=fun _ _=>.fail
abbrev qdR:List It:=[.v (.t 1) T23,.v (.t 2) T3,.v (.t 3) T23,.v (.t 9) T3,.v (.t 11) T3,.obj (.t 4) false 47 10,.v (.c 0 0) T47]
abbrev qeS:List (DEx×List It):=[(.exit 0,[]),(.ret,[.v (.t 8) T4])]
def qi4(n:Nat)(g:qw)(rec:qg qdR→Option (qY qeS))(s:qg qdR):Option (qY qeS):=(qef tab (qc5 n g) (qis n g) (subC [true,true,true,true,false,true,false,false] (qy Try.f79)) 1 (mkS qdR 62 s)).run (Lp.leaf 62 qdR qeS rec)
def qgr(n:Nat)(g:qw):Lp:=⟨62,qdR,qeS,ql n (qi4 n g)⟩
theorem qnf(n:Nat)(g:qw):qbe (qc5 n g).c (subC [true,true,true,true,false,true,false,false] (qy Try.f79)) 1=[]:=by kernel_rfl
theorem qlF(n:Nat)(g:qw)(st:St)(r:DEx×St)(h:((qgr n g).go st).Is r):DA Try.prog false (.loop (subC [true,true,true,true,false,true,false,false] (qy Try.f79))) st r:=Lp.ok (L:=qgr n g) (B:=tab) (cs:=qc5 n g) (lo:=qis n g) (id:=0) rfl (qk2 (qnf n g) qhZ) (fun _ _=>rfl) h
def qi5(n:Nat)(g:qw):Nat→St→PT (DEx×St):=fun k st=>match k with
 | 0=>(qgr n g).go st
 | _=>.fail
theorem qnU(n:Nat)(g:qw):qbe (qc5 n g).c (qy Try.f79) 0=[(0,.loop (subC [true,true,true,true,false,true,false,false] (qy Try.f79)))]:=by kernel_rfl
theorem qnV:Try.f79.body=some (qy Try.f79):=by kernel_rfl
def qgs(n:Nat)(g:qw)(x:qg qbS):Option (qcd qbw):=runW tab (qc5 n g) (qi5 n g) (qy Try.f79) qbS 4 62 [.tmp 8] qbw x
theorem qng(n:Nat)(g:qw):qsh Try.prog 79 4 qbS 1 qbw (qgs n g):=fun _ _ h=>qoN (B:=tab) (cs:=qc5 n g) (lo:=qi5 n g) (rs:=[.tmp 8]) Try.func79 (by kernel_rfl) qnV (by kernel_rfl) (by decide) (qk2 (qnU n g) (all_cons (fun st r h=>qlF n g st r h) qhZ)) h
def qbs(n:Nat):Nat→qw
 | 0=>⟨fun _=>none,fun _ _ h=>by cases h⟩
 | k+1=>⟨qgs n (qbs n k),qng n (qbs n k)⟩
def qjw(n:Nat)(x:qg qbS):Option (qcd qbw):=(qbs n n).1 x
def qnW(n:Nat):Cw Try.prog:=⟨79,4,qbS,1,qbw,qjw n,(qbs n n).2⟩
abbrev qbi:List It:=[.v (.t 0) T47,.v (.t 1) T23]
abbrev qbb:List (List It):=[[.v (.t 0) T3]]
abbrev qi:Type:={g:qg qbi→Option (qcd qbb) // qsh Try.prog 49 2 qbi 1 qbb g}
def qT(n:Nat)(g:qi):CL Try.prog:=⟨[qfD n,qgP n,qf3 n],[qnW n,⟨49,2,qbi,1,qbb,g.1,g.2⟩],0,fun _=>false⟩
def qhL(n:Nat)(g:qi):Nat→St→PT (DEx×St):=fun _ _=>.fail
abbrev qdc:List It:=[.v (.t 1) T23,.v (.t 5) T3,.v (.t 6) T3,.obj (.t 2) false 47 10,.v (.c 0 0) T47]
abbrev qeh:List (DEx×List It):=[(.exit 0,[.v (.t 1) T23,.v (.t 5) T3,.obj (.t 2) false 47 10,.v (.c 0 0) T47])]
def qia(n:Nat)(g:qi)(rec:qg qdc→Option (qY qeh))(s:qg qdc):Option (qY qeh):=(qef tab (qT n g) (qhL n g) (subC [true,false,true,false,true,false,true,false,false] (qy Try.f49)) 1 (mkS qdc 86 s)).run (Lp.leaf 86 qdc qeh rec)
def qfK(n:Nat)(g:qi):Lp:=⟨86,qdc,qeh,ql n (qia n g)⟩
theorem qlU(n:Nat)(g:qi):qbe (qT n g).c (subC [true,false,true,false,true,false,true,false,false] (qy Try.f49)) 1=[]:=by kernel_rfl
theorem qkH(n:Nat)(g:qi)(st:St)(r:DEx×St)(h:((qfK n g).go st).Is r):DA Try.prog false (.loop (subC [true,false,true,false,true,false,true,false,false] (qy Try.f49))) st r:=Lp.ok (L:=qfK n g) (B:=tab) (cs:=qT n g) (lo:=qhL n g) (id:=0) rfl (qk2 (qlU n g) qhZ) (fun _ _=>rfl) h
def qhM(n:Nat)(g:qi):Nat→St→PT (DEx×St):=fun _ _=>.fail
abbrev qdd:List It:=[.v (.t 1) T23,.v (.t 7) T3,.v (.t 8) T3,.obj (.t 2) false 47 10,.v (.c 0 0) T47]
abbrev qei:List (DEx×List It):=[(.exit 2,[.v (.t 7) T3])]
def qib(n:Nat)(g:qi)(rec:qg qdd→Option (qY qei))(s:qg qdd):Option (qY qei):=(qef tab (qT n g) (qhM n g) (subC [true,true,true,false,true,false,false] (qy Try.f49)) 2 (mkS qdd 86 s)).run (Lp.leaf 86 qdd qei rec)
def qfL(n:Nat)(g:qi):Lp:=⟨86,qdd,qei,ql n (qib n g)⟩
theorem qlV(n:Nat)(g:qi):qbe (qT n g).c (subC [true,true,true,false,true,false,false] (qy Try.f49)) 2=[]:=by kernel_rfl
theorem qkI(n:Nat)(g:qi)(st:St)(r:DEx×St)(h:((qfL n g).go st).Is r):DA Try.prog false (.loop (subC [true,true,true,false,true,false,false] (qy Try.f49))) st r:=Lp.ok (L:=qfL n g) (B:=tab) (cs:=qT n g) (lo:=qhM n g) (id:=1) rfl (qk2 (qlV n g) qhZ) (fun _ _=>rfl) h
def qic(n:Nat)(g:qi):Nat→St→PT (DEx×St):=fun k st=>match k with
 | 0=>(qfK n g).go st
 | 1=>(qfL n g).go st
 | _=>.fail
theorem qmE(n:Nat)(g:qi):qbe (qT n g).c (qy Try.f49) 0=[(0,.loop (subC [true,false,true,false,true,false,true,false,false] (qy Try.f49))),(1,.loop (subC [true,true,true,false,true,false,false] (qy Try.f49)))]:=by kernel_rfl
theorem qmF:Try.f49.body=some (qy Try.f49):=by kernel_rfl
def qfM(n:Nat)(g:qi)(x:qg qbi):Option (qcd qbb):=runW tab (qT n g) (qic n g) (qy Try.f49) qbi 2 86 [.tmp 4] qbb x
theorem qlW(n:Nat)(g:qi):qsh Try.prog 49 2 qbi 1 qbb (qfM n g):=fun _ _ h=>qoN (B:=tab) (cs:=qT n g) (lo:=qic n g) (rs:=[.tmp 4]) Try.func49 (by kernel_rfl) qmF (by kernel_rfl) (by decide) (qk2 (qmE n g) (all_cons (fun st r h=>qkH n g st r h) (all_cons (fun st r h=>qkI n g st r h) qhZ))) h
def qu(n:Nat):Nat→qi
 | 0=>⟨fun _=>none,fun _ _ h=>by cases h⟩
 | k+1=>⟨qfM n (qu n k),qlW n (qu n k)⟩
def qit(n:Nat)(x:qg qbi):Option (qcd qbb):=(qu n n).1 x
def qmG(n:Nat):Cw Try.prog:=⟨49,2,qbi,1,qbb,qit n,(qu n n).2⟩
def qmH(n:Nat):CL Try.prog:=⟨[qfa n],[qmG n],0,nof⟩
def qi6(n:Nat):Ct Try.prog:=mkC tab (qmH n) [] Try.func17 [.d T47] [T3,T26] (by kernel_rfl)
def qlG(n:Nat):CL Try.prog:=⟨[],[],0,nof⟩
def qid(n:Nat):Ct Try.prog:=mkC tab (qlG n) [] Try.func36 [.d T60] [T60] (by kernel_rfl)
def qk8(n:Nat):CL Try.prog:=⟨[],[],0,nof⟩
def qhN(n:Nat):Ct Try.prog:=mkC tab (qk8 n) [] Try.func35 [.d T44] [T44] (by kernel_rfl)
def qjx(n:Nat):CL Try.prog:=⟨[qhN n,qid n],[],0,nof⟩
def qjy(n:Nat):LK Try.prog false:=mkL tab (qjx n) [] Try.f13 [true,true,true,true,true,true,false,true,false,false] 0 n [.v (.t 4) T3,.obj (.t 1) false 47 10,.v (.c 0 0) T47,.obj (.t 2) false 47 10,.v (.c 1 0) T47,.obj (.t 3) false 47 10,.v (.c 2 0) T3,.v (.c 2 1) T3,.v (.c 2 2) T3,.v (.c 2 3) T41,.v (.c 2 4) T23,.v (.c 2 5) T44,.row (.c 2 9) false T60 60] [(.exit 0,[.obj (.t 2) false 47 10,.v (.c 0 0) T47,.obj (.t 3) false 47 10,.v (.c 1 0) T3,.v (.c 1 1) T3,.v (.c 1 2) T3,.v (.c 1 3) T41,.v (.c 1 4) T23,.v (.c 1 5) T44,.row (.c 1 9) false T60 60])] (by kernel_rfl)
def qjO(n:Nat):Ct Try.prog:=mkC tab (qjx n) [qjy n] Try.func13 [.d T47] [T47] (by kernel_rfl)
def qlX(n:Nat):CL Try.prog:=⟨[],[],0,nof⟩
def qiu(n:Nat):Ct Try.prog:=mkC tab (qlX n) [] Try.func34 [.d T44,.d T60] [T4] (by kernel_rfl)
def qjP(n:Nat):CL Try.prog:=⟨[qfa n,qiu n],[],0,nof⟩
def qjQ(n:Nat):LK Try.prog false:=mkL tab (qjP n) [] Try.f12 [true,true,false,true,false,false] 0 n [.v (.t 3) T3,.obj (.t 1) false 47 10,.v (.c 0 0) T47] [(.exit 0,[.obj (.t 1) false 47 10,.v (.c 0 0) T47]),(.ret,[.v (.t 2) T4])] (by kernel_rfl)
def qkz(n:Nat):Ct Try.prog:=mkC tab (qjP n) [qjQ n] Try.func12 [.d T47] [T4] (by kernel_rfl)
end
end
end Go.Proofs.Ytbdockhccdkdiaa
