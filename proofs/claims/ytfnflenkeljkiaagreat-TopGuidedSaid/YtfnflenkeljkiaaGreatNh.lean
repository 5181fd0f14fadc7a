/- Texts DnG, DnH, DnK in one. -/
import Derived.Test.YtfnflenkeljkiaaGreatNg
/- Printed: what functions of the program compute. -/
set_option linter.constructorNameAsVariable false
set_option linter.unusedSimpArgs false
set_option linter.unusedVariables false
set_option linter.unusedSectionVars false
namespace Go.Proofs.YtfnflenkeljkiaaGreat
open Go Go.Proofs Go.RowKit
set_option maxRecDepth 20000
noncomputable section
section
def qf6(n:Nat):CL Tryz.prog:=⟨[],[],0,fun _=>false⟩
def qiB(n:Nat):Nat→St→PT (DEx×St):=fun _ _=>.fail
theorem qmF(n:Nat):qcm (qf6 n).c (qbH Tryz.f26) 0=[]:=by kernel_rfl
theorem qmG:Tryz.f26.body=some (qbH Tryz.f26):=by kernel_rfl
abbrev qf7:List It:=[.raw (.t 0)]
abbrev qfK:List (List It):=[[.row (.t 0) false T3 3]]
def qeD(n:Nat)(x:qi qf7):Option (qdp qfK):=runW tab (qf6 n) (qiB n) (qbH Tryz.f26) qf7 1 8 [.tmp 2] qfK x
def qmH(n:Nat):Cw Tryz.prog:=⟨26,1,qf7,1,qfK,qeD n,fun _ _ h=>quI (B:=tab) (cs:=qf6 n) (lo:=qiB n) (rs:=[.tmp 2]) Tryz.func26 (by kernel_rfl) qmG (by kernel_rfl) (by decide) (qr7 (qmF n) qnP) h⟩
def qhu(n:Nat):CL Tryz.prog:=⟨[],[],0,fun _=>false⟩
def qki(n:Nat):Nat→St→PT (DEx×St):=fun _ _=>.fail
theorem qpf(n:Nat):qcm (qhu n).c (qbH Tryz.f26) 0=[]:=by kernel_rfl
theorem qpg:Tryz.f26.body=some (qbH Tryz.f26):=by kernel_rfl
abbrev qhv:List It:=[.v (.t 0) T23]
abbrev qfm:List (List It):=[[.row (.t 0) false T3 3]]
def qge(n:Nat)(x:qi qhv):Option (qdp qfm):=runW tab (qhu n) (qki n) (qbH Tryz.f26) qhv 1 8 [.tmp 2] qfm x
def qph(n:Nat):Cw Tryz.prog:=⟨26,1,qhv,1,qfm,qge n,fun _ _ h=>quI (B:=tab) (cs:=qhu n) (lo:=qki n) (rs:=[.tmp 2]) Tryz.func26 (by kernel_rfl) qpg (by kernel_rfl) (by decide) (qr7 (qpf n) qnP) h⟩
end
theorem qpi(n:Nat)(c:Nat):qeD n (.slice none 0 c,())=some ([],()):=by kernel_rfl
theorem qpj(n:Nat)(a:Addr)(c:Nat):qeD n (.slice (some a) 0 c,())=some ([],()):=by kernel_rfl
def qkw(n:Nat):Cw Tryz.prog:=qz7 26 T3 qfm (qeD n) (qge n) ([],()) (fun v y m0 h=>(qmH n).okk (x:=(v,())) (y:=y) h m0 (quM m0)) (fun l y m0 h=>(qph n).okk (x:=(l,())) (y:=y) h m0 (quM m0)) (fun A c=>by cases A with | none=>exact qpi n c | some a=>exact qpj n a c)
def qpk(n:Nat):=(qkw n).M
section
def qnY(n:Nat):CL Tryz.prog:=⟨[qjQ n],[qjz n,qkw n],1,nof⟩
def qnZ(n:Nat):LK Tryz.prog false:=mkG tab (qnY n) [] Tryz.f11 [true,true,true,false,true,false] 0 17 [18,19] (qy3 n) [.obj (.t 2) false 23 1,.v (.c 0 0) T23,.obj (.t 3) false 23 1,.v (.c 1 0) T23,.obj (.t 4) false 36 1,.v (.c 2 0) T36] [(.ret,[.obj (.t 2) false 23 1,.v (.c 0 0) T23,.obj (.t 3) false 23 1,.v (.c 1 0) T23,.obj (.t 4) false 36 1,.v (.c 2 0) T36])] (by kernel_rfl)
def qo5(n:Nat):Ct Tryz.prog:=mkC tab (qnY n) [qnZ n] Tryz.func11 [.d T29] [T23,T23,T36] (by kernel_rfl)
end
end
end Go.Proofs.YtfnflenkeljkiaaGreat
