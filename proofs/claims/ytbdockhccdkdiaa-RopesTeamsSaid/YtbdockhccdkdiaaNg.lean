/- Texts DnW, DnX, DnY in one. -/
import Derived.Test.YtbdockhccdkdiaaNf
import Derived.Test.YtbdockhccdkdiaaTg
/- Printed: what functions of the program compute. -/
set_option linter.constructorNameAsVariable false
set_option linter.unusedSimpArgs false
set_option linter.unusedVariables false
set_option linter.unusedSectionVars false
namespace Go.Proofs.Ytbdockhccdkdiaa
open Go Go.Proofs Go.RowKit
set_option maxRecDepth 20000
noncomputable section
section
def qmB(n:Nat):CL Try.prog:=⟨[],[],0,nof⟩
def qc1(n:Nat):Ct Try.prog:=mkC tab (qmB n) [] Try.func78 [.d T86,.d T3] [T4] (by kernel_rfl)
def qoY(n:Nat):CL Try.prog:=⟨[],[],0,nof⟩
def qpA(n:Nat):Ct Try.prog:=mkC tab (qoY n) [] Try.func105 [.d T138,.d T138] [T138,T138] (by kernel_rfl)
def qqb(n:Nat):CL Try.prog:=⟨[qpA n],[],0,nof⟩
def qqP(n:Nat):Ct Try.prog:=mkC tab (qqb n) [] Try.func102 [.d T37,.d T37] [T37,T37] (by kernel_rfl)
def qiS(n:Nat):CL Try.prog:=⟨[qqP n],[],0,nof⟩
def qm5(n:Nat):LK Try.prog false:=mkL tab (qiS n) [] Try.f94 [true,true,true,true,true,true,false,false,false] 0 n [.v (.t 8) T3,.row (.t 7) false T3 3] [(.exit 0,[.row (.t 7) false T3 3])] (by kernel_rfl)
def qjl(n:Nat):Cw Try.prog:=mkW tab (qiS n) [qm5 n] Try.func94 [.v (.t 0) T23,.v (.t 1) T3] 2 [[.row (.t 0) false T3 3]] (by kernel_rfl)
def qof(n:Nat):CL Try.prog:=⟨[qgi n],[],0,nof⟩
def qfY(n:Nat):Cw Try.prog:=mkW tab (qof n) [] Try.func73 [.v (.t 0) T3,.v (.t 1) T3,.obj (.t 2) true 47 10,.v (.c 0 0) T47] 3 [[.v (.t 0) T3,.obj (.t 1) true 47 10,.v (.c 0 0) T47]] (by kernel_rfl)
def qbj(n:Nat):CL Try.prog:=⟨[],[qfY n],0,nof⟩
def qcM(n:Nat):LK Try.prog false:=mkL tab (qbj n) [] Try.f100 [true,false,false,true,false,false,true,false,false] 1 n [.v (.t 1) T3,.v (.t 2) T3,.v (.t 8) T3,.v (.t 9) T3,.row (.t 0) true T3 3,.fnc (.t 3) 73 [.box true 47 10],.v (.c 1 0) T47] [(.exit 2,[.v (.t 1) T3,.v (.t 2) T3,.v (.t 8) T3,.row (.t 0) true T3 3,.fnc (.t 3) 73 [.box true 47 10],.v (.c 1 0) T47])] (by kernel_rfl)
def qcN(n:Nat):LK Try.prog false:=mkL tab (qbj n) [qcM n] Try.f100 [true,false,false] 0 n [.v (.t 1) T3,.v (.t 2) T3,.v (.t 8) T3,.row (.t 0) true T3 3,.fnc (.t 3) 73 [.box true 47 10],.v (.c 1 0) T47] [(.exit 0,[.row (.t 0) true T3 3,.fnc (.t 3) 73 [.box true 47 10],.v (.c 1 0) T47])] (by kernel_rfl)
def qbp(n:Nat):Cw Try.prog:=mkW tab (qbj n) [qcN n] Try.func100 [.v (.t 1) T3,.v (.t 2) T3,.row (.t 0) true T3 3,.fnc (.t 3) 73 [.box true 47 10],.v (.c 1 0) T47] 4 [[.row (.t 0) true T3 3,.obj (.t 1) true 47 10,.v (.c 1 0) T47]] (by kernel_rfl)
def qZ(n:Nat):CL Try.prog:=⟨[],[qfY n,qbp n],0,nof⟩
def qdx(n:Nat):LK Try.prog false:=mkL tab (qZ n) [] Try.f92 [true,true,false,false,false] 0 n [.v (.t 1) T3,.v (.t 6) T3,.v (.t 7) T3,.v (.t 8) T3,.row (.t 0) true T3 3,.fnc (.t 2) 73 [.box true 47 10],.v (.c 1 0) T47] [(.exit 0,[.v (.t 1) T3,.v (.t 6) T3,.v (.t 7) T3,.row (.t 0) true T3 3,.fnc (.t 2) 73 [.box true 47 10],.v (.c 1 0) T47])] (by kernel_rfl)
def qdy(n:Nat):LK Try.prog false:=mkL tab (qZ n) [] Try.f92 [true,true,true,true,false,false,true,false,true,false,false,false] 2 n [.v (.t 1) T3,.v (.t 6) T3,.v (.t 7) T3,.v (.t 8) T3,.row (.t 0) true T3 3,.fnc (.t 2) 73 [.box true 47 10],.v (.c 1 0) T47] [(.exit 4,[.v (.t 1) T3,.v (.t 6) T3,.v (.t 7) T3,.row (.t 0) true T3 3,.fnc (.t 2) 73 [.box true 47 10],.v (.c 1 0) T47])] (by kernel_rfl)
def qdz(n:Nat):LK Try.prog false:=mkL tab (qZ n) [qdy n] Try.f92 [true,true,true,true,false,false] 1 n [.v (.t 1) T3,.v (.t 6) T3,.row (.t 0) true T3 3,.fnc (.t 2) 73 [.box true 47 10],.v (.c 1 0) T47] [(.exit 2,[.row (.t 0) true T3 3,.fnc (.t 2) 73 [.box true 47 10],.v (.c 1 0) T47])] (by kernel_rfl)
def qcn(n:Nat):Cw Try.prog:=mkW tab (qZ n) [qdx n,qdz n] Try.func92 [.v (.t 1) T3,.row (.t 0) true T3 3,.fnc (.t 2) 73 [.box true 47 10],.v (.c 1 0) T47] 3 [[.row (.t 0) true T3 3,.obj (.t 1) true 47 10,.v (.c 1 0) T47]] (by kernel_rfl)
def qfZ(n:Nat):CL Try.prog:=⟨[],[qfY n,qcn n],0,nof⟩
def qch(n:Nat):Cw Try.prog:=mkW tab (qfZ n) [] Try.func72 [.row (.t 0) true T3 3,.fnc (.t 1) 73 [.box true 47 10],.v (.c 1 0) T47] 2 [[.row (.t 0) true T3 3,.obj (.t 1) true 47 10,.v (.c 1 0) T47]] (by kernel_rfl)
def qkN(n:Nat):CL Try.prog:=⟨[qkG n,qgJ n,qkM n],[qch n],0,nof⟩
def qkO(n:Nat):LK Try.prog false:=mkL tab (qkN n) [] Try.f47 [true,true,true,false,true,false,false] 0 n [.v (.t 21) T45,.v (.t 22) T3,.v (.t 23) T3,.obj (.t 1) false 47 10,.v (.c 0 0) T47,.obj (.t 5) false 116 11,.v (.c 1 0) T47,.row (.c 1 10) false T3 3,.obj (.t 6) false 99 4,.v (.c 3 0) T99] [(.exit 0,[.obj (.t 1) false 47 10,.v (.c 0 0) T47,.obj (.t 5) false 116 11,.v (.c 1 0) T47,.row (.c 1 10) false T3 3])] (by kernel_rfl)
def qiE(n:Nat):Cw Try.prog:=mkW tab (qkN n) [qkO n] Try.func47 [.v (.t 0) T47] 1 [[.v (.t 0) T86,.v (.t 1) T26],[.nilp (.t 0),.v (.t 1) T26]] (by kernel_rfl)
def qk6(n:Nat):CL Try.prog:=⟨[qgi n],[],0,nof⟩
def qd3(n:Nat):Cw Try.prog:=mkW tab (qk6 n) [] Try.func95 [.v (.t 0) T3,.v (.t 1) T3,.obj (.t 2) true 23 1,.row (.c 0 0) true T3 3] 3 [[.v (.t 0) T3,.obj (.t 1) true 23 1,.row (.c 0 0) true T3 3]] (by kernel_rfl)
def qU(n:Nat):CL Try.prog:=⟨[],[qd3 n],0,nof⟩
def qco(n:Nat):LK Try.prog false:=mkL tab (qU n) [] Try.f100 [true,false,false,true,false,false,true,false,false] 1 n [.v (.t 1) T3,.v (.t 2) T3,.v (.t 8) T3,.v (.t 9) T3,.row (.t 0) true T3 3,.fnc (.t 3) 95 [.box true 23 1],.row (.c 1 0) true T3 3] [(.exit 2,[.v (.t 1) T3,.v (.t 2) T3,.v (.t 8) T3,.row (.t 0) true T3 3,.fnc (.t 3) 95 [.box true 23 1],.row (.c 1 0) true T3 3])] (by kernel_rfl)
def qcp(n:Nat):LK Try.prog false:=mkL tab (qU n) [qco n] Try.f100 [true,false,false] 0 n [.v (.t 1) T3,.v (.t 2) T3,.v (.t 8) T3,.row (.t 0) true T3 3,.fnc (.t 3) 95 [.box true 23 1],.row (.c 1 0) true T3 3] [(.exit 0,[.row (.t 0) true T3 3,.fnc (.t 3) 95 [.box true 23 1],.row (.c 1 0) true T3 3])] (by kernel_rfl)
def qct(n:Nat):Cw Try.prog:=mkW tab (qU n) [qcp n] Try.func100 [.v (.t 1) T3,.v (.t 2) T3,.row (.t 0) true T3 3,.fnc (.t 3) 95 [.box true 23 1],.row (.c 1 0) true T3 3] 4 [[.row (.t 0) true T3 3,.obj (.t 1) true 23 1,.row (.c 1 0) true T3 3]] (by kernel_rfl)
def qL(n:Nat):CL Try.prog:=⟨[],[qd3 n,qbp n,qct n],0,nof⟩
def qcS(n:Nat):LK Try.prog false:=mkL tab (qL n) [] Try.f92 [true,true,false,false,false] 0 n [.v (.t 1) T3,.v (.t 6) T3,.v (.t 7) T3,.v (.t 8) T3,.row (.t 0) true T3 3,.fnc (.t 2) 95 [.box true 23 1],.row (.c 1 0) true T3 3] [(.exit 0,[.v (.t 1) T3,.v (.t 6) T3,.v (.t 7) T3,.row (.t 0) true T3 3,.fnc (.t 2) 95 [.box true 23 1],.row (.c 1 0) true T3 3])] (by kernel_rfl)
def qcT(n:Nat):LK Try.prog false:=mkL tab (qL n) [] Try.f92 [true,true,true,true,false,false,true,false,true,false,false,false] 2 n [.v (.t 1) T3,.v (.t 6) T3,.v (.t 7) T3,.v (.t 8) T3,.row (.t 0) true T3 3,.fnc (.t 2) 95 [.box true 23 1],.row (.c 1 0) true T3 3] [(.exit 4,[.v (.t 1) T3,.v (.t 6) T3,.v (.t 7) T3,.row (.t 0) true T3 3,.fnc (.t 2) 95 [.box true 23 1],.row (.c 1 0) true T3 3])] (by kernel_rfl)
def qcU(n:Nat):LK Try.prog false:=mkL tab (qL n) [qcT n] Try.f92 [true,true,true,true,false,false] 1 n [.v (.t 1) T3,.v (.t 6) T3,.row (.t 0) true T3 3,.fnc (.t 2) 95 [.box true 23 1],.row (.c 1 0) true T3 3] [(.exit 2,[.row (.t 0) true T3 3,.fnc (.t 2) 95 [.box true 23 1],.row (.c 1 0) true T3 3])] (by kernel_rfl)
def qc2(n:Nat):Cw Try.prog:=mkW tab (qL n) [qcS n,qcU n] Try.func92 [.v (.t 1) T3,.row (.t 0) true T3 3,.fnc (.t 2) 95 [.box true 23 1],.row (.c 1 0) true T3 3] 3 [[.row (.t 0) true T3 3,.obj (.t 1) true 23 1,.row (.c 1 0) true T3 3]] (by kernel_rfl)
def qe1(n:Nat):CL Try.prog:=⟨[],[qcn n,qc2 n,qd3 n],0,nof⟩
def qcV(n:Nat):Cw Try.prog:=mkW tab (qe1 n) [] Try.func72 [.row (.t 0) true T3 3,.fnc (.t 1) 95 [.box true 23 1],.row (.c 1 0) true T3 3] 2 [[.row (.t 0) true T3 3,.obj (.t 1) true 23 1,.row (.c 1 0) true T3 3]] (by kernel_rfl)
def qez(n:Nat):CL Try.prog:=⟨[],[qch n,qcV n,qjl n],1,nof⟩
def qgz(n:Nat):LK Try.prog false:=mkL tab (qez n) [] Try.f77 [true,true,true,false,true,false,false] 0 n [.v (.t 0) T86,.v (.t 21) T3,.v (.t 22) T3,.row (.t 1) true T3 3,.obj (.t 3) false 23 1,.al (.c 1 0) 0,.row (.t 6) false T3 3,.row (.t 7) false T3 3,.sub (.t 20) 0] [(.exit 0,[.v (.t 0) T86,.row (.t 1) true T3 3,.obj (.t 3) false 23 1,.al (.c 1 0) 0,.row (.t 6) false T3 3,.row (.t 7) false T3 3])] (by kernel_rfl)
def qgA(n:Nat):LK Try.prog false:=mkL tab (qez n) [] Try.f77 [true,true,true,true,true,false,true,false,false] 1 n [.v (.t 0) T86,.v (.t 37) T23,.v (.t 38) T3,.v (.t 39) T3,.row (.t 1) true T3 3,.obj (.t 3) false 23 1,.al (.c 1 0) 0,.row (.t 6) false T3 3] [(.exit 2,[.row (.t 1) true T3 3,.row (.t 6) false T3 3]),(.ret,[.v (.t 4) T23,.v (.t 5) T4,.row (.t 1) true T3 3])] (by kernel_rfl)
def qbg(n:Nat):Cw Try.prog:=mkW tab (qez n) [qgz n,qgA n] Try.func77 [.v (.t 0) T86,.row (.t 1) true T3 3] 2 [[.v (.t 0) T23,.v (.t 1) T4,.row (.t 2) true T3 3]] (by kernel_rfl)
def qf8(n:Nat):CL Try.prog:=⟨[],[],0,fun _=>false⟩
def qil(n:Nat):Nat→St→PT (DEx×St):=fun _ _=>.fail
theorem qm6(n:Nat):qbe (qf8 n).c (qy Try.f48) 0=[]:=by kernel_rfl
theorem qm7:Try.f48.body=some (qy Try.f48):=by kernel_rfl
abbrev qgp:List Ar:=[.d T86]
abbrev qeN:List Ty:=[T86]
def qiT(n:Nat)(x:qey qgp):Option (qv qeN):=(qef tab (qf8 n) (qil n) (qy Try.f48) 0 (qgV qgp 4 x)).run (qxK 2 75 qeN)
def qiU(n:Nat):Ct Try.prog:=⟨48,qgp,.fb 75 qeN,qiT n,fun _ _ h=>qyz (B:=tab) (cs:=qf8 n) (lo:=qil n) (i:=2) (g:=75) (caps:=qeN) Try.func48 (by kernel_rfl) qm7 (by kernel_rfl) (qk2 (qm6 n) qhZ) h⟩
end
set_option maxHeartbeats 4000000
abbrev OutT:=T86.den
def ptOf:Ty→Ty
 | .pt t=>t
 | t=>t
def tmGs(x:OutT):List (Int×(Int×Int)):=x.1.2.2.2.1
def tmCl(x:OutT):List Int:=x.1.2.2.2.2.1
def qlw(n:Nat)(x:OutT)(g:Nat):Option (Bool×Unit):=(qc1 n).M (x,((g:Int),()))
def qj6(n:Nat)(x:OutT)(c:List Int):Option (List Int×(Bool×(List Int×Unit))):=(qbg n).M (x,(c,()))
def tmLd(n:Nat)(x:OutT)(g:Nat):Bool:=((qlw n x g).map fun y=>y.1).getD false
def tmRp(n:Nat)(x:OutT)(c:List Int):Option (List Int):=(qj6 n x c).bind fun y=>cond y.2.1 (some y.1) none
theorem qup{n:Nat}{x:OutT}{g:Nat}{b:Bool}(h:qlw n x g=some (b,())):tmLd n x g=b:=by unfold tmLd;rw[h];rfl
theorem qrn{n:Nat}{x:OutT}{c o:List Int}{b:Bool}{u:List Int×Unit}(h:qj6 n x c=some (o,(b,u))):tmRp n x c=cond b (some o) none:=by unfold tmRp;rw[h];rfl
def tmO(n:Nat)(x:OutT):TmO where
 G:=(tmGs x).length
 clients:=tmCl x
 pts g:=(((tmGs x)[g]?).map fun z=>z.2.2).getD 0
 lead g:=tmLd n x g
 rop c:=tmRp n x c
structure TmOk (n:Nat) (x:OutT):Prop where
 gl:(tmGs x).length≤4
 cl:(tmCl x).length≤6
 cb:∀c,c∈tmCl x→1≤c∧c≤20
 gb:∀z,z∈tmGs x→z.2.2≤20
 ld:∀g:Nat,g<(tmGs x).length→∃b,qlw n x g=some (b,())
 rd:∀l:List Int,l.length=(tmGs x).length→(∀c,c∈l→0≤c∧c≤6)→∃o b,qj6 n x l=some (o,(b,(l,())))∧(b=false→o=[])
theorem MC.imp{P:Program}{f:FuncId}{args:List AV}{H:List HE}{R R':AV→List HE→Prop}(h:MC P f args H R)(hR:∀r H',R r H'→R' r H'):MC P f args H R' :=
 ⟨h.1,fun w S N vs hT hs=>(h.2 w S N vs hT hs).mono fun _ _ ⟨u,r,H',h1,h2,h3⟩=>⟨u,r,H',h1,hR r H' h2,h3⟩⟩
theorem qxg(n:Nat)(x:OutT)(l:List Int)(rc:Nat)(o:List Int)(b:Bool)(hl:l.length≤4)(h:qj6 n x l=some (o,(b,(l,())))) :
  MC Try.prog 77 [T86.argA x,.val (.slice (some ⟨rc,0,none⟩) l.length l.length)] [.blk rc 3 (ints l)] fun r H'=>H'=[.blk rc 3 (ints l)]∧r = .tup [slA intC 1 o,.val (.bool b)]:=by
 have h0:=(qbg n).ok (x,(l,())) (o,(b,(l,()))) h (fun _=>.slice (some ⟨rc,0,none⟩) l.length l.length) (fun _ _=>.inl ⟨_,_,_,rfl⟩)
 have hi:ints l=(l.map (T3.enc)).flatten:=by
  clear h h0 hl
  induction l with
  | nil=>rfl
  | cons a l ih =>
   show AV.int a::ints l=AV.int a::(List.map T3.enc l).flatten
   rw[ih]
 rw[hi]
 have e:qa (gOf (fun _=>.slice (some ⟨rc,0,none⟩) l.length l.length) (mkS (qbg n).ins (qbg n).p (x,(l,()))).H) (mkS (qbg n).ins (qbg n).p (x,(l,()))).T=[T86.argA x,.val (.slice (some ⟨rc,0,none⟩) l.length l.length)]:=by
  exact congrArg (fun z=>[AV.rp z,AV.val (.slice (some ⟨rc,0,none⟩) l.length l.length)]) (qcQ (ptOf T86) x)
 rw[e] at h0
 refine (MC.blkOwn (by rw[← hi,qlv,Nat.mul_one]) (Nat.le_trans hl (by decide)) (MC.imp (H:=[HE.own (.slice (some ⟨rc,0,none⟩) l.length l.length) 3 1 l.length ((l.map (T3.enc)).flatten)]) (R':=fun r H'=>H'=[HE.own (.slice (some ⟨rc,0,none⟩) l.length l.length) 3 1 l.length ((l.map (T3.enc)).flatten)]∧r = .tup [slA intC 1 o,.val (.bool b)]) h0 fun r H' hr=>?_) fun r H' hr=>hr.1).imp fun r H' hr=>⟨hr.1,hr.2.2⟩
 obtain ⟨m1,hs,hm,hv,hH⟩:=hr
 have hm0:m1 0 = .slice (some ⟨rc,0,none⟩) l.length l.length:=hm 0 (by show 0<1;omega)
 refine ⟨?_,?_⟩
 ·rw[hH]
  show [HE.own (m1 0) _ _ _ _]=_
  rw[hm0]
  rfl
 ·rw[hv]
  rfl
theorem qxh(n:Nat)(x:OutT)(g:Nat)(b:Bool)(h:qlw n x g=some (b,())):PC Try.prog 78 [T86.argA x,.val (.int .i64 (g:Int))] (.val (.bool b)):=by
 have:=(qc1 n).ok (x,((g:Int),())) (b,()) h
 have e:(qc1 n).f=78:=rfl
 have e2:arsA (qc1 n).ars (x,((g:Int),()))=[T86.argA x,.val (.int .i64 (g:Int))]:=rfl
 have e3:(qc1 n).rs.A (b,()) = .val (.bool b):=rfl
 rw[e,e2,e3] at this
 exact this
attribute [irreducible] qlw qj6 tmLd tmRp
theorem qtf(n:Nat)(one:Bool)(x:OutT)(h:TmOk n x):qkS Try.prog one 75 [] (qd2 [T86] (x,())) ((qcl (tmO n x)).map (qte one)):=by
 have hld:=fun g hg=>h.ld g hg
 have hrd:=fun l h1 h2=>h.rd l h1 h2
 have h1:∀g:Nat,g<(tmO n x).G→PC Try.prog 78 [T86.argA x,.int (g:Int)] (.bool ((tmO n x).lead g)):=fun g hg=>by
  obtain ⟨b,hb⟩:=h.ld g hg
  show PC Try.prog 78 [T86.argA x,.int (g:Int)] (.bool (tmLd n x g))
  rw[qup hb]
  exact qxh n x g b hb
 have h2:∀(l:List Int) (rc:Nat),l.length=(tmO n x).G→(∀x∈l,0≤x∧x≤6)→MC Try.prog 77 [T86.argA x,.val (.slice (some ⟨rc,0,none⟩) l.length l.length)] [.blk rc 3 (ints l)] fun r H'=>H'=[.blk rc 3 (ints l)]∧qoX ((tmO n x).rop l) r:=fun l rc hl hc=>by
  obtain ⟨o,b,hb,ho⟩:=h.rd l hl hc
  refine (qxg n x l rc o b (by rw[hl];exact h.gl) hb).imp fun r H' hr=>⟨hr.1,?_⟩
  show qoX (tmRp n x l) r
  rw[qrn hb,hr.2]
  cases b with
  | true=>rfl
  | false=>rw[ho rfl];rfl
 have h3:∀k:Nat,k<(tmCl x).length→1≤cntN (tmCl x) k∧cntN (tmCl x) k≤20:=fun k hk=>by rw[qj5 _ _ hk];exact h.cb _ (List.getElem_mem hk)
 have h4:∀g:Nat,(tmO n x).pts g≤20:=fun g=>by
  show (((tmGs x)[g]?).map fun z=>z.2.2).getD 0≤20
  cases hx:(tmGs x)[g]? with
  | none=>simp
  | some z=>exact h.gb z (List.mem_of_getElem? hx)
 have h5:∀g:Nat,g<(tmO n x).G→∃a b,((tmGs x).map fun z=>[AV.val (.int .i64 z.1),.val (.int .i64 z.2.1),.val (.int .i64 z.2.2)])[g]?=some [a,b,.int ((tmO n x).pts g)]:=fun g hg=>by
  have hg':g<(tmGs x).length:=hg
  rw[List.getElem?_map,List.getElem?_eq_getElem hg']
  refine ⟨.val (.int .i64 (tmGs x)[g].1),.val (.int .i64 (tmGs x)[g].2.1),?_⟩
  rw[show (tmO n x).pts g=(tmGs x)[g].2.2 by show (((tmGs x)[g]?).map fun z=>z.2.2).getD 0=_;rw[List.getElem?_eq_getElem hg'];rfl]
  rfl
 have h6:∀k:Nat,k<(tmCl x).length→((tmCl x).map fun c=>[AV.val (.int .i64 c)])[k]?=some [.int (cntN (tmCl x) k)]:=fun k hk=>by
  rw[List.getElem?_map,List.getElem?_eq_getElem hk,qj5 _ _ hk];rfl
 have h7:((tmGs x).map fun z=>[AV.val (.int .i64 z.1),.val (.int .i64 z.2.1),.val (.int .i64 z.2.2)]).length=(tmO n x).G:=by rw[List.length_map];rfl
 have h8:((tmCl x).map fun c=>[AV.val (.int .i64 c)]).length=(tmCl x).length:=by rw[List.length_map]
 exact qxf (tmO n x) one _ _ _ _ _ _ _ _ _ _ _ h.gl h.cl h3 h4 h7 h5 h8 h6 h1 h2
open Classical in
def qkv(n:Nat)(x:OutT):Option (List (List Nat×List Int)):=if TmOk n x then some (qcl (tmO n x)) else none
theorem qoZ{n:Nat}{x:OutT}(h:TmOk n x):qkv n x=some (qcl (tmO n x)):=if_pos h
theorem qr0{n:Nat}{x:OutT}{l:List (List Nat×List Int)}(h:qkv n x=some l):TmOk n x∧l=qcl (tmO n x):=by
 unfold qkv at h
 split at h
 ·next hk=>injection h with h;exact ⟨hk,h.symm⟩
 ·cases h
def qlx(n:Nat)(x:T86.den):Option (List (qv [T23])):=(qkv n x).map fun l=>l.map fun e=>(e.2,())
def qo0(n:Nat)(x:T86.den):Option (List (qv [T23,T23])):=(qkv n x).map fun l=>l.map fun e=>(e.1.map fun g:Nat=>(g:Int),(e.2,()))
def qyc(n:Nat):Itr Try.prog:=⟨75,[T86],[T23],false,1,fun x=>qlx n x.1,fun x l h=>by
 unfold qlx at h
 obtain ⟨x,u⟩:=x
 cases ht:qkv n x with
 | none=>simp only[ht] at h;cases h
 | some m =>
  simp only[ht] at h
  injection h with h
  obtain ⟨h1,rfl⟩:=qr0 ht
  subst h
  show qkS Try.prog false 75 [] (qd2 [T86] (x,())) (List.map (fun y:List Int×Unit=>List.replicate 1 AV.any++tysA [T23] y) (List.map (fun e:List Nat×List Int=>(e.2,())) (qcl (tmO n x))))
  rw[List.map_map]
  exact qtf n false x h1⟩
def qxi(n:Nat):Itr Try.prog:=⟨75,[T86],[T23,T23],true,0,fun x=>qo0 n x.1,fun x l h=>by
 unfold qo0 at h
 obtain ⟨x,u⟩:=x
 cases ht:qkv n x with
 | none=>simp only[ht] at h;cases h
 | some m =>
  simp only[ht] at h
  injection h with h
  obtain ⟨h1,rfl⟩:=qr0 ht
  subst h
  have e:=qtf n true x h1
  show qkS Try.prog true 75 [] (qd2 [T86] (x,())) (List.map (fun y:List Int×(List Int×Unit)=>List.replicate 0 AV.any++tysA [T23,T23] y) (List.map (fun e:List Nat×List Int=>(e.1.map fun g:Nat=>(g:Int),(e.2,()))) (qcl (tmO n x))))
  rw[List.map_map]
  refine (congrArg (fun f=>qkS Try.prog true 75 [] (qd2 [T86] (x,())) ((qcl (tmO n x)).map f)) (funext fun y=>?_)).mp e
  show [AV.sl 1 (y.1.map fun a:Nat=>[AV.val (.int .i64 (a:Int))]),slA intC 1 y.2]=[AV.sl 1 ((y.1.map fun g:Nat=>(g:Int)).map fun a:Int=>[AV.val (.int .i64 a)]),_]
  rw[List.map_map]
  rfl⟩
section
def qjm(n:Nat):CL Try.prog:=⟨[qiU n],[qiE n],0,nof⟩
def qmk(n:Nat):LK Try.prog true:=mkL tab (qjm n) [] Try.f16 [true,true,true,true,false,true,false,true,false,true,false,true,false,false] 1 n [.v (.t 9) T3,.v (.t 24) T23,.v (.t 25) T3,.v (.t 26) T3,.obj (.t 6) true 3 1,.v (.c 0 0) T3] [(.exit 2,[.v (.t 9) T3,.obj (.t 6) true 3 1,.v (.c 0 0) T3])] (by kernel_rfl)
def qml(n:Nat):LK Try.prog false:=mkG tab (qjm n) [qmk n] Try.f16 [true,true,true,true,false,true,false] 0 21 [22,23] (qyc n) [.obj (.t 6) false 3 1,.v (.c 0 0) T3] [] (by kernel_rfl)
def qj7(n:Nat):Ct Try.prog:=mkC tab (qjm n) [qml n] Try.func16 [.d T47] [T3,T26] (by kernel_rfl)
end
end
end Go.Proofs.Ytbdockhccdkdiaa
