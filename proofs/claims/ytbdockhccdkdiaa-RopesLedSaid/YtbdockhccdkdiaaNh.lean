/- Texts DnG, DnH, DnK in one. -/
import Derived.Test.YtbdockhccdkdiaaNg
/- Printed: what functions of the program compute. -/
set_option linter.constructorNameAsVariable false
set_option linter.unusedSimpArgs false
set_option linter.unusedVariables false
set_option linter.unusedSectionVars false
namespace Go.Proofs.Ytbdockhccdkdiaa
open Go Go.Proofs Go.RowKit
set_option maxRecDepth 20000
noncomputable section
section
def qfB(n:Nat):CL Try.prog:=⟨[],[],0,fun _=>false⟩
def qhJ(n:Nat):Nat→St→PT (DEx×St):=fun _ _=>.fail
theorem qlN(n:Nat):qbg (qfB n).c (qz Try.f50) 0=[]:=by kernel_rfl
theorem qlO:Try.f50.body=some (qz Try.f50):=by kernel_rfl
abbrev qfC:List It:=[.raw (.t 0)]
abbrev qff:List (List It):=[[.row (.t 0) false T3 3]]
def qek(n:Nat)(x:qg qfC):Option (qcf qff):=runW tab (qfB n) (qhJ n) (qz Try.f50) qfC 1 8 [.tmp 2] qff x
def qlP(n:Nat):Cw Try.prog:=⟨50,1,qfC,1,qff,qek n,fun _ _ h=>qoN (B:=tab) (cs:=qfB n) (lo:=qhJ n) (rs:=[.tmp 2]) Try.func50 (by kernel_rfl) qlO (by kernel_rfl) (by decide) (qk0 (qlN n) qh2) h⟩
def qgP(n:Nat):CL Try.prog:=⟨[],[],0,fun _=>false⟩
def qjr(n:Nat):Nat→St→PT (DEx×St):=fun _ _=>.fail
theorem qol(n:Nat):qbg (qgP n).c (qz Try.f50) 0=[]:=by kernel_rfl
theorem qom:Try.f50.body=some (qz Try.f50):=by kernel_rfl
abbrev qgQ:List It:=[.v (.t 0) T23]
abbrev qeX:List (List It):=[[.row (.t 0) false T3 3]]
def qfH(n:Nat)(x:qg qgQ):Option (qcf qeX):=runW tab (qgP n) (qjr n) (qz Try.f50) qgQ 1 8 [.tmp 2] qeX x
def qon(n:Nat):Cw Try.prog:=⟨50,1,qgQ,1,qeX,qfH n,fun _ _ h=>qoN (B:=tab) (cs:=qgP n) (lo:=qjr n) (rs:=[.tmp 2]) Try.func50 (by kernel_rfl) qom (by kernel_rfl) (by decide) (qk0 (qol n) qh2) h⟩
end
theorem qoo(n:Nat)(c:Nat):qek n (.slice none 0 c,())=some ([],()):=by kernel_rfl
theorem qop(n:Nat)(a:Addr)(c:Nat):qek n (.slice (some a) 0 c,())=some ([],()):=by kernel_rfl
def qjL(n:Nat):Cw Try.prog:=qyh 50 T3 qeX (qek n) (qfH n) ([],()) (fun v y m0 h=>(qlP n).okk (x:=(v,())) (y:=y) h m0 (qtl m0)) (fun l y m0 h=>(qon n).okk (x:=(l,())) (y:=y) h m0 (qtl m0)) (fun A c=>by cases A with | none=>exact qoo n c | some a=>exact qop n a c)
def qoq(n:Nat):=(qjL n).M
section
def qm6(n:Nat):CL Try.prog:=⟨[qiY n],[qiI n,qjL n],1,nof⟩
def qm7(n:Nat):LK Try.prog false:=mkG tab (qm6 n) [] Try.f18 [true,true,true,false,true,false] 0 17 [18,19] (qxl n) [.obj (.t 2) false 23 1,.v (.c 0 0) T23,.obj (.t 3) false 23 1,.v (.c 1 0) T23,.obj (.t 4) false 26 1,.v (.c 2 0) T26] [(.ret,[.obj (.t 2) false 23 1,.v (.c 0 0) T23,.obj (.t 3) false 23 1,.v (.c 1 0) T23,.obj (.t 4) false 26 1,.v (.c 2 0) T26])] (by kernel_rfl)
def qob(n:Nat):Ct Try.prog:=mkC tab (qm6 n) [qm7 n] Try.func18 [.d T47] [T23,T23,T26] (by kernel_rfl)
end
end
end Go.Proofs.Ytbdockhccdkdiaa
