/- Printed: what functions of the program compute. -/
import Derived.Test.YtfnflenkeljkiaaGreatNh
set_option linter.constructorNameAsVariable false
set_option linter.unusedSimpArgs false
set_option linter.unusedVariables false
set_option linter.unusedSectionVars false
namespace Go.Proofs.YtfnflenkeljkiaaGreat
open Go Go.Proofs Go.RowKit
set_option maxRecDepth 20000
noncomputable section
section
def qiZ(n:Nat):CL Tryz.prog:=⟨[qd8 n],[],0,nof⟩
def qi0(n:Nat):LK Tryz.prog false:=mkL tab (qiZ n) [] Tryz.f16 [true,true,false,true,false,false] 0 n [.v (.t 3) T3,.obj (.t 1) false 26 4,.v (.c 0 0) T26] [(.exit 0,[]),(.ret,[.v (.t 2) T4])] (by kernel_rfl)
def qjk(n:Nat):Ct Tryz.prog:=mkC tab (qiZ n) [qi0 n] Tryz.func16 [.d T26] [T4] (by kernel_rfl)
def qjl(n:Nat):CL Tryz.prog:=⟨[qd8 n,qjL n],[],0,nof⟩
def qjm(n:Nat):LK Tryz.prog false:=mkL tab (qjl n) [] Tryz.f17 [true,true,false,true,false,false] 0 n [.v (.t 3) T3,.obj (.t 1) false 62 4,.v (.c 0 0) T62] [(.exit 0,[]),(.ret,[.v (.t 2) T4])] (by kernel_rfl)
def qjT(n:Nat):Ct Tryz.prog:=mkC tab (qjl n) [qjm n] Tryz.func17 [.d T62] [T4] (by kernel_rfl)
def qea(n:Nat):CL Tryz.prog:=⟨[qjk n,qjT n,qd8 n],[],0,nof⟩
def qjU(n:Nat):LK Tryz.prog false:=mkL tab (qea n) [] Tryz.f5 [true,true,false,true,false,false] 0 n [.v (.t 3) T3,.obj (.t 1) false 29 10,.v (.c 0 0) T29] [(.exit 0,[.obj (.t 1) false 29 10,.v (.c 0 0) T29]),(.ret,[.v (.t 2) T36])] (by kernel_rfl)
def qjV(n:Nat):LK Tryz.prog false:=mkL tab (qea n) [] Tryz.f5 [true,true,true,true,false,true,false,false] 1 n [.v (.t 4) T3,.obj (.t 1) false 29 10,.v (.c 0 0) T29] [(.exit 2,[.obj (.t 1) false 29 10,.v (.c 0 0) T29]),(.ret,[.v (.t 2) T36])] (by kernel_rfl)
def qjW(n:Nat):LK Tryz.prog false:=mkL tab (qea n) [] Tryz.f5 [true,true,true,true,true,false,true,false,false] 2 n [.v (.t 6) T3,.obj (.t 1) false 29 10,.v (.c 0 0) T29] [(.exit 4,[.obj (.t 1) false 29 10,.v (.c 0 0) T29]),(.ret,[.v (.t 2) T36])] (by kernel_rfl)
def qjX(n:Nat):LK Tryz.prog false:=mkL tab (qea n) [] Tryz.f5 [true,true,true,true,true,true,false,true,false,false] 3 n [.v (.t 7) T3,.obj (.t 1) false 29 10,.v (.c 0 0) T29] [(.exit 6,[]),(.ret,[.v (.t 2) T36])] (by kernel_rfl)
def qhw(n:Nat):Ct Tryz.prog:=mkC tab (qea n) [qjU n,qjV n,qjW n,qjX n] Tryz.func5 [.d T29] [T36] (by kernel_rfl)
def qnq(n:Nat):CL Tryz.prog:=⟨[],[],0,nof⟩
def qjY(n:Nat):Ct Tryz.prog:=mkC tab (qnq n) [] Tryz.func79 [.d T3,.d T3] [T3] (by kernel_rfl)
def qkj(n:Nat):CL Tryz.prog:=⟨[],[],0,nof⟩
def qkk(n:Nat):LK Tryz.prog false:=mkL tab (qkj n) [] Tryz.f78 [true,true,false,true,false,false] 0 n [.v (.t 1) T3,.v (.t 5) T3,.v (.t 6) T3,.obj (.t 2) false 26 4,.v (.c 0 0) T26] [(.exit 0,[.v (.t 5) T3])] (by kernel_rfl)
def qkx(n:Nat):Ct Tryz.prog:=mkC tab (qkj n) [qkk n] Tryz.func78 [.d T26,.d T3] [T3] (by kernel_rfl)
def qjn(n:Nat):CL Tryz.prog:=⟨[qkx n,qjY n],[],0,nof⟩
def qjo(n:Nat):LK Tryz.prog false:=mkL tab (qjn n) [] Tryz.f54 [true,true,false,true,false,false] 0 n [.v (.t 2) T3,.v (.t 8) T3,.obj (.t 3) false 26 4,.v (.c 0 0) T26,.obj (.t 4) false 62 4,.v (.c 1 0) T62,.obj (.t 6) false 47 2,.v (.c 2 0) T47,.obj (.t 7) false 47 2,.v (.c 3 0) T47] [(.exit 0,[.obj (.t 6) false 47 2,.v (.c 0 0) T47,.obj (.t 7) false 47 2,.v (.c 1 0) T47])] (by kernel_rfl)
def qjZ(n:Nat):Ct Tryz.prog:=mkC tab (qjn n) [qjo n] Tryz.func54 [.d T26,.d T62,.d T3] [T47] (by kernel_rfl)
def qn0(n:Nat):CL Tryz.prog:=⟨[],[],0,nof⟩
def qkl(n:Nat):Ct Tryz.prog:=mkC tab (qn0 n) [] Tryz.func53 [.d T26,.d T62,.d T3,.d T3] [T4] (by kernel_rfl)
def qkm(n:Nat):CL Tryz.prog:=⟨[],[],0,nof⟩
def qkn(n:Nat):LK Tryz.prog false:=mkL tab (qkm n) [] Tryz.f27 [true,false,true,false,false] 0 n [.v (.t 1) T23,.v (.t 2) T3,.v (.t 6) T3,.v (.t 7) T3,.v (.t 8) T3,.obj (.t 3) false 29 10,.v (.c 0 0) T29] [(.exit 0,[.v (.t 6) T3,.v (.t 7) T3])] (by kernel_rfl)
def qky(n:Nat):Ct Tryz.prog:=mkC tab (qkm n) [qkn n] Tryz.func27 [.d T29,.d T23,.d T3] [T3,T3] (by kernel_rfl)
def qn1(n:Nat):CL Tryz.prog:=⟨[],[],0,nof⟩
def qko(n:Nat):Ct Tryz.prog:=mkC tab (qn1 n) [] Tryz.func28 [.d T29,.d T3] [T4] (by kernel_rfl)
def qnr(n:Nat):CL Tryz.prog:=⟨[qkl n,qjZ n],[],0,nof⟩
def qj0(n:Nat):Ct Tryz.prog:=mkC tab (qnr n) [] Tryz.func30 [.d T29,.d T3,.d T3] [T4] (by kernel_rfl)
def qkz(n:Nat):CL Tryz.prog:=⟨[],[],0,nof⟩
def qkA(n:Nat):LK Tryz.prog false:=mkL tab (qkz n) [] Tryz.f29 [true,false,true,false,false] 0 n [.v (.t 0) T23,.v (.t 1) T3,.v (.t 5) T3] [(.exit 0,[]),(.ret,[.v (.t 4) T4])] (by kernel_rfl)
def qlm(n:Nat):Ct Tryz.prog:=mkC tab (qkz n) [qkA n] Tryz.func29 [.d T23,.d T3] [T4] (by kernel_rfl)
def qf8(n:Nat):CL Tryz.prog:=⟨[qd8 n,qky n,qko n,qlm n,qj0 n],[],0,nof⟩
def qiC(n:Nat):LK Tryz.prog false:=mkL tab (qf8 n) [] Tryz.f12 [true,true,false,true,false,false] 0 n [.v (.t 1) T23,.v (.t 2) T23,.v (.t 7) T3,.obj (.t 3) false 29 10,.v (.c 0 0) T29] [(.exit 0,[.v (.t 1) T23,.v (.t 2) T23,.obj (.t 3) false 29 10,.v (.c 0 0) T29]),(.ret,[.v (.t 6) T4])] (by kernel_rfl)
def qiD(n:Nat):LK Tryz.prog false:=mkL tab (qf8 n) [] Tryz.f12 [true,true,true,false,true,false,false] 1 n [.v (.t 1) T23,.v (.t 2) T23,.v (.t 8) T3,.obj (.t 3) false 29 10,.v (.c 0 0) T29] [(.exit 2,[]),(.ret,[.v (.t 6) T4])] (by kernel_rfl)
def qi1(n:Nat):Ct Tryz.prog:=mkC tab (qf8 n) [qiC n,qiD n] Tryz.func12 [.d T29,.d T23,.d T23] [T4] (by kernel_rfl)
def qmI(n:Nat):CL Tryz.prog:=⟨[],[],0,nof⟩
def qjp(n:Nat):Ct Tryz.prog:=mkC tab (qmI n) [] Tryz.func15 [.d T26,.d T62] [T4] (by kernel_rfl)
def qkB(n:Nat):CL Tryz.prog:=⟨[qhw n,qjp n],[],0,nof⟩
def qkC(n:Nat):LK Tryz.prog false:=mkL tab (qkB n) [] Tryz.f4 [true,true,false,true,false,false] 0 n [.v (.t 3) T3,.obj (.t 1) false 29 10,.v (.c 0 0) T29] [(.exit 0,[.obj (.t 1) false 29 10,.v (.c 0 0) T29]),(.ret,[.v (.t 2) T4])] (by kernel_rfl)
def qln(n:Nat):Ct Tryz.prog:=mkC tab (qkB n) [qkC n] Tryz.func4 [.d T29] [T4] (by kernel_rfl)
end
end
end Go.Proofs.YtfnflenkeljkiaaGreat
