/- Texts DnG, DnH, DnK in one. -/
import Derived.Test.YtbdockhccdkdiaaNg
/- Printed: what functions of the program compute. -/
set_option linter.constructorNameAsVariable false
set_option linter.unusedSimpArgs false
set_option linter.unusedVariables false
set_option linter.unusedSectionVars false
namespace Go.Proofs.Ytbdockhccdkdiaa
open Go Go.Proofs Go.RowKit
set_option maxRecDepth 20000
noncomputable section
section
def qfv(n:Nat):CL Try.prog:=⟨[],[],0,fun _=>false⟩
def qhH(n:Nat):Nat→St→PT (DEx×St):=fun _ _=>.fail
theorem qlQ(n:Nat):qbe (qfv n).c (qy Try.f50) 0=[]:=by kernel_rfl
theorem qlR:Try.f50.body=some (qy Try.f50):=by kernel_rfl
abbrev qfw:List It:=[.raw (.t 0)]
abbrev qe8:List (List It):=[[.row (.t 0) false T3 3]]
def qeg(n:Nat)(x:qg qfw):Option (qcd qe8):=runW tab (qfv n) (qhH n) (qy Try.f50) qfw 1 8 [.tmp 2] qe8 x
def qlS(n:Nat):Cw Try.prog:=⟨50,1,qfw,1,qe8,qeg n,fun _ _ h=>qoN (B:=tab) (cs:=qfv n) (lo:=qhH n) (rs:=[.tmp 2]) Try.func50 (by kernel_rfl) qlR (by kernel_rfl) (by decide) (qk2 (qlQ n) qhZ) h⟩
def qgN(n:Nat):CL Try.prog:=⟨[],[],0,fun _=>false⟩
def qjp(n:Nat):Nat→St→PT (DEx×St):=fun _ _=>.fail
theorem qol(n:Nat):qbe (qgN n).c (qy Try.f50) 0=[]:=by kernel_rfl
theorem qom:Try.f50.body=some (qy Try.f50):=by kernel_rfl
abbrev qgO:List It:=[.v (.t 0) T23]
abbrev qeR:List (List It):=[[.row (.t 0) false T3 3]]
def qfC(n:Nat)(x:qg qgO):Option (qcd qeR):=runW tab (qgN n) (qjp n) (qy Try.f50) qgO 1 8 [.tmp 2] qeR x
def qon(n:Nat):Cw Try.prog:=⟨50,1,qgO,1,qeR,qfC n,fun _ _ h=>qoN (B:=tab) (cs:=qgN n) (lo:=qjp n) (rs:=[.tmp 2]) Try.func50 (by kernel_rfl) qom (by kernel_rfl) (by decide) (qk2 (qol n) qhZ) h⟩
end
theorem qoo(n:Nat)(c:Nat):qeg n (.slice none 0 c,())=some ([],()):=by kernel_rfl
theorem qop(n:Nat)(a:Addr)(c:Nat):qeg n (.slice (some a) 0 c,())=some ([],()):=by kernel_rfl
def qjK(n:Nat):Cw Try.prog:=qyb 50 T3 qeR (qeg n) (qfC n) ([],()) (fun v y m0 h=>(qlS n).okk (x:=(v,())) (y:=y) h m0 (qta m0)) (fun l y m0 h=>(qon n).okk (x:=(l,())) (y:=y) h m0 (qta m0)) (fun A c=>by cases A with | none=>exact qoo n c | some a=>exact qop n a c)
def qoq(n:Nat):=(qjK n).M
section
def qna(n:Nat):CL Try.prog:=⟨[qiU n],[qiE n,qjK n],1,nof⟩
def qnb(n:Nat):LK Try.prog false:=mkG tab (qna n) [] Try.f18 [true,true,true,false,true,false] 0 17 [18,19] (qxi n) [.obj (.t 2) false 23 1,.v (.c 0 0) T23,.obj (.t 3) false 23 1,.v (.c 1 0) T23,.obj (.t 4) false 26 1,.v (.c 2 0) T26] [(.ret,[.obj (.t 2) false 23 1,.v (.c 0 0) T23,.obj (.t 3) false 23 1,.v (.c 1 0) T23,.obj (.t 4) false 26 1,.v (.c 2 0) T26])] (by kernel_rfl)
def qob(n:Nat):Ct Try.prog:=mkC tab (qna n) [qnb n] Try.func18 [.d T47] [T23,T23,T26] (by kernel_rfl)
end
end
end Go.Proofs.Ytbdockhccdkdiaa
