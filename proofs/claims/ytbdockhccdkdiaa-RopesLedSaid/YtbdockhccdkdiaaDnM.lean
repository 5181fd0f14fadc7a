/- Printed: what functions of the program compute. -/
import Derived.Test.YtbdockhccdkdiaaNh
set_option linter.constructorNameAsVariable false
set_option linter.unusedSimpArgs false
set_option linter.unusedVariables false
set_option linter.unusedSectionVars false
namespace Go.Proofs.Ytbdockhccdkdiaa
open Go Go.Proofs Go.RowKit
set_option maxRecDepth 20000
noncomputable section
section
def qib(n:Nat):CL Try.prog:=⟨[qdS n],[],0,nof⟩
def qic(n:Nat):LK Try.prog false:=mkL tab (qib n) [] Try.f45 [true,true,false,true,false,false] 0 n [.v (.t 3) T3,.obj (.t 1) false 44 4,.v (.c 0 0) T44] [(.exit 0,[]),(.ret,[.v (.t 2) T4])] (by kernel_rfl)
def qir(n:Nat):Ct Try.prog:=mkC tab (qib n) [qic n] Try.func45 [.d T44] [T4] (by kernel_rfl)
def qis(n:Nat):CL Try.prog:=⟨[qdS n,qiS n],[],0,nof⟩
def qit(n:Nat):LK Try.prog false:=mkL tab (qis n) [] Try.f46 [true,true,false,true,false,false] 0 n [.v (.t 3) T3,.obj (.t 1) false 60 4,.v (.c 0 0) T60] [(.exit 0,[]),(.ret,[.v (.t 2) T4])] (by kernel_rfl)
def qi1(n:Nat):Ct Try.prog:=mkC tab (qis n) [qit n] Try.func46 [.d T60] [T4] (by kernel_rfl)
def qdU(n:Nat):CL Try.prog:=⟨[qdS n,qir n,qi1 n],[],0,nof⟩
def qi2(n:Nat):LK Try.prog false:=mkL tab (qdU n) [] Try.f15 [true,true,false,true,false,false] 0 n [.v (.t 3) T3,.obj (.t 1) false 47 10,.v (.c 0 0) T47] [(.exit 0,[.obj (.t 1) false 47 10,.v (.c 0 0) T47]),(.ret,[.v (.t 2) T26])] (by kernel_rfl)
def qi3(n:Nat):LK Try.prog false:=mkL tab (qdU n) [] Try.f15 [true,true,true,true,false,true,false,false] 1 n [.v (.t 4) T3,.obj (.t 1) false 47 10,.v (.c 0 0) T47] [(.exit 2,[.obj (.t 1) false 47 10,.v (.c 0 0) T47]),(.ret,[.v (.t 2) T26])] (by kernel_rfl)
def qi4(n:Nat):LK Try.prog false:=mkL tab (qdU n) [] Try.f15 [true,true,true,true,true,false,true,false,false] 2 n [.v (.t 6) T3,.obj (.t 1) false 47 10,.v (.c 0 0) T47] [(.exit 4,[.obj (.t 1) false 47 10,.v (.c 0 0) T47]),(.ret,[.v (.t 2) T26])] (by kernel_rfl)
def qi5(n:Nat):LK Try.prog false:=mkL tab (qdU n) [] Try.f15 [true,true,true,true,true,true,false,true,false,false] 3 n [.v (.t 7) T3,.obj (.t 1) false 47 10,.v (.c 0 0) T47] [(.exit 6,[]),(.ret,[.v (.t 2) T26])] (by kernel_rfl)
def qfh(n:Nat):Ct Try.prog:=mkC tab (qdU n) [qi2 n,qi3 n,qi4 n,qi5 n] Try.func15 [.d T47] [T26] (by kernel_rfl)
def qmy(n:Nat):CL Try.prog:=⟨[],[],0,nof⟩
def qi6(n:Nat):Ct Try.prog:=mkC tab (qmy n) [] Try.func97 [.d T3,.d T3] [T3] (by kernel_rfl)
def qjt(n:Nat):CL Try.prog:=⟨[],[],0,nof⟩
def qju(n:Nat):LK Try.prog false:=mkL tab (qjt n) [] Try.f96 [true,true,false,true,false,false] 0 n [.v (.t 1) T3,.v (.t 5) T3,.v (.t 6) T3,.obj (.t 2) false 44 4,.v (.c 0 0) T44] [(.exit 0,[.v (.t 5) T3])] (by kernel_rfl)
def qjM(n:Nat):Ct Try.prog:=mkC tab (qjt n) [qju n] Try.func96 [.d T44,.d T3] [T3] (by kernel_rfl)
def qiu(n:Nat):CL Try.prog:=⟨[qjM n,qi6 n],[],0,nof⟩
def qiv(n:Nat):LK Try.prog false:=mkL tab (qiu n) [] Try.f81 [true,true,false,true,false,false] 0 n [.v (.t 2) T3,.v (.t 8) T3,.obj (.t 3) false 44 4,.v (.c 0 0) T44,.obj (.t 4) false 60 4,.v (.c 1 0) T60,.obj (.t 6) false 30 2,.v (.c 2 0) T30,.obj (.t 7) false 30 2,.v (.c 3 0) T30] [(.exit 0,[.obj (.t 6) false 30 2,.v (.c 0 0) T30,.obj (.t 7) false 30 2,.v (.c 1 0) T30])] (by kernel_rfl)
def qi7(n:Nat):Ct Try.prog:=mkC tab (qiu n) [qiv n] Try.func81 [.d T44,.d T60,.d T3] [T30] (by kernel_rfl)
def qm9(n:Nat):CL Try.prog:=⟨[],[],0,nof⟩
def qjv(n:Nat):Ct Try.prog:=mkC tab (qm9 n) [] Try.func80 [.d T44,.d T60,.d T3,.d T3] [T4] (by kernel_rfl)
def qjw(n:Nat):CL Try.prog:=⟨[],[],0,nof⟩
def qjx(n:Nat):LK Try.prog false:=mkL tab (qjw n) [] Try.f51 [true,false,true,false,false] 0 n [.v (.t 1) T23,.v (.t 2) T3,.v (.t 6) T3,.v (.t 7) T3,.v (.t 8) T3,.obj (.t 3) false 47 10,.v (.c 0 0) T47] [(.exit 0,[.v (.t 6) T3,.v (.t 7) T3])] (by kernel_rfl)
def qfI(n:Nat):Ct Try.prog:=mkC tab (qjw n) [qjx n] Try.func51 [.d T47,.d T23,.d T3] [T3,T3] (by kernel_rfl)
def qna(n:Nat):CL Try.prog:=⟨[],[],0,nof⟩
def qgR(n:Nat):Ct Try.prog:=mkC tab (qna n) [] Try.func52 [.d T47,.d T3] [T4] (by kernel_rfl)
def qmz(n:Nat):CL Try.prog:=⟨[qjv n,qi7 n],[],0,nof⟩
def qgs(n:Nat):Ct Try.prog:=mkC tab (qmz n) [] Try.func54 [.d T47,.d T3,.d T3] [T4] (by kernel_rfl)
def qjN(n:Nat):CL Try.prog:=⟨[],[],0,nof⟩
def qjO(n:Nat):LK Try.prog false:=mkL tab (qjN n) [] Try.f53 [true,false,true,false,false] 0 n [.v (.t 0) T23,.v (.t 1) T3,.v (.t 5) T3] [(.exit 0,[]),(.ret,[.v (.t 4) T4])] (by kernel_rfl)
def qf6(n:Nat):Ct Try.prog:=mkC tab (qjN n) [qjO n] Try.func53 [.d T23,.d T3] [T4] (by kernel_rfl)
def qfD(n:Nat):CL Try.prog:=⟨[qdS n,qfI n,qgR n,qf6 n,qgs n],[],0,nof⟩
def qhK(n:Nat):LK Try.prog false:=mkL tab (qfD n) [] Try.f19 [true,true,false,true,false,false] 0 n [.v (.t 1) T23,.v (.t 2) T23,.v (.t 7) T3,.obj (.t 3) false 47 10,.v (.c 0 0) T47] [(.exit 0,[.v (.t 1) T23,.v (.t 2) T23,.obj (.t 3) false 47 10,.v (.c 0 0) T47]),(.ret,[.v (.t 6) T4])] (by kernel_rfl)
def qhL(n:Nat):LK Try.prog false:=mkL tab (qfD n) [] Try.f19 [true,true,true,false,true,false,false] 1 n [.v (.t 1) T23,.v (.t 2) T23,.v (.t 8) T3,.obj (.t 3) false 47 10,.v (.c 0 0) T47] [(.exit 2,[]),(.ret,[.v (.t 6) T4])] (by kernel_rfl)
def qid(n:Nat):Ct Try.prog:=mkC tab (qfD n) [qhK n,qhL n] Try.func19 [.d T47,.d T23,.d T23] [T4] (by kernel_rfl)
abbrev qbU:List It:=[.v (.t 0) T47,.v (.t 1) T23,.v (.t 2) T3,.v (.t 3) T23]
abbrev qbB:List (List It):=[[.v (.t 0) T4]]
abbrev qx:Type:={g:qg qbU→Option (qcf qbB) // qst Try.prog 79 4 qbU 1 qbB g}
def qc8(n:Nat)(g:qx):CL Try.prog:=⟨[qfI n,qf6 n,qgs n],[⟨79,4,qbU,1,qbB,g.1,g.2⟩],0,fun _=>false⟩
def qiw(n:Nat)(g:qx):Nat→St→PT (DEx×St):=fun _ _=>.fail
abbrev qdV:List It:=[.v (.t 1) T23,.v (.t 2) T3,.v (.t 3) T23,.v (.t 9) T3,.v (.t 11) T3,.obj (.t 4) false 47 10,.v (.c 0 0) T47]
abbrev qeY:List (DEx×List It):=[(.exit 0,[]),(.ret,[.v (.t 8) T4])]
def qi8(n:Nat)(g:qx)(rec:qg qdV→Option (q8 qeY))(s:qg qdV):Option (q8 qeY):=(qej tab (qc8 n g) (qiw n g) (subC [true,true,true,true,false,true,false,false] (qz Try.f79)) 1 (mkS qdV 62 s)).run (Lp.leaf 62 qdV qeY rec)
def qgt(n:Nat)(g:qx):Lp:=⟨62,qdV,qeY,qj n (qi8 n g)⟩
theorem qnb(n:Nat)(g:qx):qbg (qc8 n g).c (subC [true,true,true,true,false,true,false,false] (qz Try.f79)) 1=[]:=by kernel_rfl
theorem qlD(n:Nat)(g:qx)(st:St)(r:DEx×St)(h:((qgt n g).go st).Is r):DA Try.prog false (.loop (subC [true,true,true,true,false,true,false,false] (qz Try.f79))) st r:=Lp.ok (L:=qgt n g) (B:=tab) (cs:=qc8 n g) (lo:=qiw n g) (id:=0) rfl (qk0 (qnb n g) qh2) (fun _ _=>rfl) h
def qi9(n:Nat)(g:qx):Nat→St→PT (DEx×St):=fun k st=>match k with
 | 0=>(qgt n g).go st
 | _=>.fail
theorem qnT(n:Nat)(g:qx):qbg (qc8 n g).c (qz Try.f79) 0=[(0,.loop (subC [true,true,true,true,false,true,false,false] (qz Try.f79)))]:=by kernel_rfl
theorem qnU:Try.f79.body=some (qz Try.f79):=by kernel_rfl
def qgu(n:Nat)(g:qx)(x:qg qbU):Option (qcf qbB):=runW tab (qc8 n g) (qi9 n g) (qz Try.f79) qbU 4 62 [.tmp 8] qbB x
theorem qnc(n:Nat)(g:qx):qst Try.prog 79 4 qbU 1 qbB (qgu n g):=fun _ _ h=>qoN (B:=tab) (cs:=qc8 n g) (lo:=qi9 n g) (rs:=[.tmp 8]) Try.func79 (by kernel_rfl) qnU (by kernel_rfl) (by decide) (qk0 (qnT n g) (all_cons (fun st r h=>qlD n g st r h) qh2)) h
def qbw(n:Nat):Nat→qx
 | 0=>⟨fun _=>none,fun _ _ h=>by cases h⟩
 | k+1=>⟨qgu n (qbw n k),qnc n (qbw n k)⟩
def qjy(n:Nat)(x:qg qbU):Option (qcf qbB):=(qbw n n).1 x
def qnV(n:Nat):Cw Try.prog:=⟨79,4,qbU,1,qbB,qjy n,(qbw n n).2⟩
abbrev qbk:List It:=[.v (.t 0) T47,.v (.t 1) T23]
abbrev qbd:List (List It):=[[.v (.t 0) T3]]
abbrev qi:Type:={g:qg qbk→Option (qcf qbd) // qst Try.prog 49 2 qbk 1 qbd g}
def qU(n:Nat)(g:qi):CL Try.prog:=⟨[qfI n,qgR n,qf6 n],[qnV n,⟨49,2,qbk,1,qbd,g.1,g.2⟩],0,fun _=>false⟩
def qhM(n:Nat)(g:qi):Nat→St→PT (DEx×St):=fun _ _=>.fail
abbrev qde:List It:=[.v (.t 1) T23,.v (.t 5) T3,.v (.t 6) T3,.obj (.t 2) false 47 10,.v (.c 0 0) T47]
abbrev qel:List (DEx×List It):=[(.exit 0,[.v (.t 1) T23,.v (.t 5) T3,.obj (.t 2) false 47 10,.v (.c 0 0) T47])]
def qie(n:Nat)(g:qi)(rec:qg qde→Option (q8 qel))(s:qg qde):Option (q8 qel):=(qej tab (qU n g) (qhM n g) (subC [true,false,true,false,true,false,true,false,false] (qz Try.f49)) 1 (mkS qde 86 s)).run (Lp.leaf 86 qde qel rec)
def qfP(n:Nat)(g:qi):Lp:=⟨86,qde,qel,qj n (qie n g)⟩
theorem qlR(n:Nat)(g:qi):qbg (qU n g).c (subC [true,false,true,false,true,false,true,false,false] (qz Try.f49)) 1=[]:=by kernel_rfl
theorem qkH(n:Nat)(g:qi)(st:St)(r:DEx×St)(h:((qfP n g).go st).Is r):DA Try.prog false (.loop (subC [true,false,true,false,true,false,true,false,false] (qz Try.f49))) st r:=Lp.ok (L:=qfP n g) (B:=tab) (cs:=qU n g) (lo:=qhM n g) (id:=0) rfl (qk0 (qlR n g) qh2) (fun _ _=>rfl) h
def qhN(n:Nat)(g:qi):Nat→St→PT (DEx×St):=fun _ _=>.fail
abbrev qdf:List It:=[.v (.t 1) T23,.v (.t 7) T3,.v (.t 8) T3,.obj (.t 2) false 47 10,.v (.c 0 0) T47]
abbrev qem:List (DEx×List It):=[(.exit 2,[.v (.t 7) T3])]
def qif(n:Nat)(g:qi)(rec:qg qdf→Option (q8 qem))(s:qg qdf):Option (q8 qem):=(qej tab (qU n g) (qhN n g) (subC [true,true,true,false,true,false,false] (qz Try.f49)) 2 (mkS qdf 86 s)).run (Lp.leaf 86 qdf qem rec)
def qfQ(n:Nat)(g:qi):Lp:=⟨86,qdf,qem,qj n (qif n g)⟩
theorem qlS(n:Nat)(g:qi):qbg (qU n g).c (subC [true,true,true,false,true,false,false] (qz Try.f49)) 2=[]:=by kernel_rfl
theorem qkI(n:Nat)(g:qi)(st:St)(r:DEx×St)(h:((qfQ n g).go st).Is r):DA Try.prog false (.loop (subC [true,true,true,false,true,false,false] (qz Try.f49))) st r:=Lp.ok (L:=qfQ n g) (B:=tab) (cs:=qU n g) (lo:=qhN n g) (id:=1) rfl (qk0 (qlS n g) qh2) (fun _ _=>rfl) h
def qig(n:Nat)(g:qi):Nat→St→PT (DEx×St):=fun k st=>match k with
 | 0=>(qfP n g).go st
 | 1=>(qfQ n g).go st
 | _=>.fail
theorem qmA(n:Nat)(g:qi):qbg (qU n g).c (qz Try.f49) 0=[(0,.loop (subC [true,false,true,false,true,false,true,false,false] (qz Try.f49))),(1,.loop (subC [true,true,true,false,true,false,false] (qz Try.f49)))]:=by kernel_rfl
theorem qmB:Try.f49.body=some (qz Try.f49):=by kernel_rfl
def qfR(n:Nat)(g:qi)(x:qg qbk):Option (qcf qbd):=runW tab (qU n g) (qig n g) (qz Try.f49) qbk 2 86 [.tmp 4] qbd x
theorem qlT(n:Nat)(g:qi):qst Try.prog 49 2 qbk 1 qbd (qfR n g):=fun _ _ h=>qoN (B:=tab) (cs:=qU n g) (lo:=qig n g) (rs:=[.tmp 4]) Try.func49 (by kernel_rfl) qmB (by kernel_rfl) (by decide) (qk0 (qmA n g) (all_cons (fun st r h=>qkH n g st r h) (all_cons (fun st r h=>qkI n g st r h) qh2))) h
def qv(n:Nat):Nat→qi
 | 0=>⟨fun _=>none,fun _ _ h=>by cases h⟩
 | k+1=>⟨qfR n (qv n k),qlT n (qv n k)⟩
def qix(n:Nat)(x:qg qbk):Option (qcf qbd):=(qv n n).1 x
def qmC(n:Nat):Cw Try.prog:=⟨49,2,qbk,1,qbd,qix n,(qv n n).2⟩
def qmD(n:Nat):CL Try.prog:=⟨[qfh n],[qmC n],0,nof⟩
def qnd(n:Nat):Ct Try.prog:=mkC tab (qmD n) [] Try.func17 [.d T47] [T3,T26] (by kernel_rfl)
def qlU(n:Nat):CL Try.prog:=⟨[],[],0,nof⟩
def qiy(n:Nat):Ct Try.prog:=mkC tab (qlU n) [] Try.func34 [.d T44,.d T60] [T4] (by kernel_rfl)
def qjP(n:Nat):CL Try.prog:=⟨[qfh n,qiy n],[],0,nof⟩
def qjQ(n:Nat):LK Try.prog false:=mkL tab (qjP n) [] Try.f12 [true,true,false,true,false,false] 0 n [.v (.t 3) T3,.obj (.t 1) false 47 10,.v (.c 0 0) T47] [(.exit 0,[.obj (.t 1) false 47 10,.v (.c 0 0) T47]),(.ret,[.v (.t 2) T4])] (by kernel_rfl)
def qky(n:Nat):Ct Try.prog:=mkC tab (qjP n) [qjQ n] Try.func12 [.d T47] [T4] (by kernel_rfl)
def qjz(n:Nat):CL Try.prog:=⟨[],[],0,nof⟩
def qjA(n:Nat):LK Try.prog false:=mkL tab (qjz n) [] Try.f20 [true,true,false,true,false,false] 0 n [.v (.t 0) T23,.v (.t 3) T3,.v (.t 4) T3] [(.exit 0,[.v (.t 3) T3])] (by kernel_rfl)
def qjR(n:Nat):Ct Try.prog:=mkC tab (qjz n) [qjA n] Try.func20 [.d T23] [T3] (by kernel_rfl)
def qtq(n:Nat):CL Try.prog:=⟨[qnM n,qfd n,qik n],[],0,nof⟩
def qpS(n:Nat):Ct Try.prog:=mkC tab (qtq n) [] Try.func21 [.d T44,.d T60,.d T3] [T4,T4,T26] (by kernel_rfl)
end
end
end Go.Proofs.Ytbdockhccdkdiaa
