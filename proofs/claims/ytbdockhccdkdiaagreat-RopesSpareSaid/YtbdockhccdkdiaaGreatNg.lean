/- Texts DnW, DnX, DnY in one. -/
import Derived.Test.YtbdockhccdkdiaaGreatNf
import Derived.Test.YtbdockhccdkdiaaGreatTg
/- Printed: what functions of the program compute. -/
set_option linter.constructorNameAsVariable false
set_option linter.unusedSimpArgs false
set_option linter.unusedVariables false
set_option linter.unusedSectionVars false
namespace Go.Proofs.YtbdockhccdkdiaaGreat
open Go Go.Proofs Go.RowKit
set_option maxRecDepth 20000
noncomputable section
section
def qlk(n:Nat):CL Tryz.prog:=⟨[],[],0,nof⟩
def qcn(n:Nat):Ct Tryz.prog:=mkC tab (qlk n) [] Tryz.func69 [.d T92,.d T3] [T4] (by kernel_rfl)
def qnt(n:Nat):CL Tryz.prog:=⟨[],[],0,nof⟩
def qn3(n:Nat):Ct Tryz.prog:=mkC tab (qnt n) [] Tryz.func125 [.d T136,.d T136] [T136,T136] (by kernel_rfl)
def qoN(n:Nat):CL Tryz.prog:=⟨[qn3 n],[],0,nof⟩
def qpx(n:Nat):Ct Tryz.prog:=mkC tab (qoN n) [] Tryz.func112 [.d T44,.d T44] [T44,T44] (by kernel_rfl)
def qh7(n:Nat):CL Tryz.prog:=⟨[qpx n],[],0,nof⟩
def qlJ(n:Nat):LK Tryz.prog false:=mkL tab (qh7 n) [] Tryz.f87 [true,true,true,true,true,true,false,false,false] 0 n [.v (.t 8) T3,.row (.t 7) false T3 3] [(.exit 0,[.row (.t 7) false T3 3])] (by kernel_rfl)
def qiv(n:Nat):Cw Tryz.prog:=mkW tab (qh7 n) [qlJ n] Tryz.func87 [.v (.t 0) T23,.v (.t 1) T3] 2 [[.row (.t 0) false T3 3]] (by kernel_rfl)
def qmN(n:Nat):CL Tryz.prog:=⟨[qfI n],[],0,nof⟩
def qg5(n:Nat):Cw Tryz.prog:=mkW tab (qmN n) [] Tryz.func64 [.v (.t 0) T3,.v (.t 1) T3,.obj (.t 2) true 53 10,.v (.c 0 0) T53] 3 [[.v (.t 0) T3,.obj (.t 1) true 53 10,.v (.c 0 0) T53]] (by kernel_rfl)
def qbd(n:Nat):CL Tryz.prog:=⟨[],[qg5 n],0,nof⟩
def qet(n:Nat):LK Tryz.prog false:=mkL tab (qbd n) [] Tryz.f110 [true,false,false,true,false,false,true,false,false] 1 n [.v (.t 1) T3,.v (.t 2) T3,.v (.t 8) T3,.v (.t 9) T3,.row (.t 0) true T3 3,.fnc (.t 3) 64 [.box true 53 10],.v (.c 1 0) T53] [(.exit 2,[.v (.t 1) T3,.v (.t 2) T3,.v (.t 8) T3,.row (.t 0) true T3 3,.fnc (.t 3) 64 [.box true 53 10],.v (.c 1 0) T53])] (by kernel_rfl)
def qeu(n:Nat):LK Tryz.prog false:=mkL tab (qbd n) [qet n] Tryz.f110 [true,false,false] 0 n [.v (.t 1) T3,.v (.t 2) T3,.v (.t 8) T3,.row (.t 0) true T3 3,.fnc (.t 3) 64 [.box true 53 10],.v (.c 1 0) T53] [(.exit 0,[.row (.t 0) true T3 3,.fnc (.t 3) 64 [.box true 53 10],.v (.c 1 0) T53])] (by kernel_rfl)
def qce(n:Nat):Cw Tryz.prog:=mkW tab (qbd n) [qeu n] Tryz.func110 [.v (.t 1) T3,.v (.t 2) T3,.row (.t 0) true T3 3,.fnc (.t 3) 64 [.box true 53 10],.v (.c 1 0) T53] 4 [[.row (.t 0) true T3 3,.obj (.t 1) true 53 10,.v (.c 1 0) T53]] (by kernel_rfl)
def qW(n:Nat):CL Tryz.prog:=⟨[],[qg5 n,qce n],0,nof⟩
def qfs(n:Nat):LK Tryz.prog false:=mkL tab (qW n) [] Tryz.f85 [true,true,false,false,false] 0 n [.v (.t 1) T3,.v (.t 6) T3,.v (.t 7) T3,.v (.t 8) T3,.row (.t 0) true T3 3,.fnc (.t 2) 64 [.box true 53 10],.v (.c 1 0) T53] [(.exit 0,[.v (.t 1) T3,.v (.t 6) T3,.v (.t 7) T3,.row (.t 0) true T3 3,.fnc (.t 2) 64 [.box true 53 10],.v (.c 1 0) T53])] (by kernel_rfl)
def qft(n:Nat):LK Tryz.prog false:=mkL tab (qW n) [] Tryz.f85 [true,true,true,true,false,false,true,false,true,false,false,false] 2 n [.v (.t 1) T3,.v (.t 6) T3,.v (.t 7) T3,.v (.t 8) T3,.row (.t 0) true T3 3,.fnc (.t 2) 64 [.box true 53 10],.v (.c 1 0) T53] [(.exit 4,[.v (.t 1) T3,.v (.t 6) T3,.v (.t 7) T3,.row (.t 0) true T3 3,.fnc (.t 2) 64 [.box true 53 10],.v (.c 1 0) T53])] (by kernel_rfl)
def qfu(n:Nat):LK Tryz.prog false:=mkL tab (qW n) [qft n] Tryz.f85 [true,true,true,true,false,false] 1 n [.v (.t 1) T3,.v (.t 6) T3,.row (.t 0) true T3 3,.fnc (.t 2) 64 [.box true 53 10],.v (.c 1 0) T53] [(.exit 2,[.row (.t 0) true T3 3,.fnc (.t 2) 64 [.box true 53 10],.v (.c 1 0) T53])] (by kernel_rfl)
def qcZ(n:Nat):Cw Tryz.prog:=mkW tab (qW n) [qfs n,qfu n] Tryz.func85 [.v (.t 1) T3,.row (.t 0) true T3 3,.fnc (.t 2) 64 [.box true 53 10],.v (.c 1 0) T53] 3 [[.row (.t 0) true T3 3,.obj (.t 1) true 53 10,.v (.c 1 0) T53]] (by kernel_rfl)
def qfg(n:Nat):CL Tryz.prog:=⟨[],[qg5 n,qcZ n],0,nof⟩
def qcU(n:Nat):Cw Tryz.prog:=mkW tab (qfg n) [] Tryz.func63 [.row (.t 0) true T3 3,.fnc (.t 1) 64 [.box true 53 10],.v (.c 1 0) T53] 2 [[.row (.t 0) true T3 3,.obj (.t 1) true 53 10,.v (.c 1 0) T53]] (by kernel_rfl)
def qjP(n:Nat):CL Tryz.prog:=⟨[qit n,qqU n,qnZ n],[qcU n],0,nof⟩
def qn4(n:Nat):LK Tryz.prog false:=mkL tab (qjP n) [] Tryz.f46 [true,true,true,false,true,false,false] 0 n [.v (.t 21) T51,.v (.t 22) T3,.v (.t 23) T3,.obj (.t 1) false 53 10,.v (.c 0 0) T53,.obj (.t 5) false 109 11,.v (.c 1 0) T53,.row (.c 1 10) false T3 3,.obj (.t 6) false 85 4,.v (.c 3 0) T85] [(.exit 0,[.obj (.t 1) false 53 10,.v (.c 0 0) T53,.obj (.t 5) false 109 11,.v (.c 1 0) T53,.row (.c 1 10) false T3 3])] (by kernel_rfl)
def qky(n:Nat):Cw Tryz.prog:=mkW tab (qjP n) [qn4 n] Tryz.func46 [.v (.t 0) T53] 1 [[.v (.t 0) T92,.v (.t 1) T28],[.nilp (.t 0),.v (.t 1) T28]] (by kernel_rfl)
def qj8(n:Nat):CL Tryz.prog:=⟨[qfI n],[],0,nof⟩
def qdy(n:Nat):Cw Tryz.prog:=mkW tab (qj8 n) [] Tryz.func88 [.v (.t 0) T3,.v (.t 1) T3,.obj (.t 2) true 23 1,.row (.c 0 0) true T3 3] 3 [[.v (.t 0) T3,.obj (.t 1) true 23 1,.row (.c 0 0) true T3 3]] (by kernel_rfl)
def qR(n:Nat):CL Tryz.prog:=⟨[],[qdy n],0,nof⟩
def qbQ(n:Nat):LK Tryz.prog false:=mkL tab (qR n) [] Tryz.f110 [true,false,false,true,false,false,true,false,false] 1 n [.v (.t 1) T3,.v (.t 2) T3,.v (.t 8) T3,.v (.t 9) T3,.row (.t 0) true T3 3,.fnc (.t 3) 88 [.box true 23 1],.row (.c 1 0) true T3 3] [(.exit 2,[.v (.t 1) T3,.v (.t 2) T3,.v (.t 8) T3,.row (.t 0) true T3 3,.fnc (.t 3) 88 [.box true 23 1],.row (.c 1 0) true T3 3])] (by kernel_rfl)
def qbR(n:Nat):LK Tryz.prog false:=mkL tab (qR n) [qbQ n] Tryz.f110 [true,false,false] 0 n [.v (.t 1) T3,.v (.t 2) T3,.v (.t 8) T3,.row (.t 0) true T3 3,.fnc (.t 3) 88 [.box true 23 1],.row (.c 1 0) true T3 3] [(.exit 0,[.row (.t 0) true T3 3,.fnc (.t 3) 88 [.box true 23 1],.row (.c 1 0) true T3 3])] (by kernel_rfl)
def qbU(n:Nat):Cw Tryz.prog:=mkW tab (qR n) [qbR n] Tryz.func110 [.v (.t 1) T3,.v (.t 2) T3,.row (.t 0) true T3 3,.fnc (.t 3) 88 [.box true 23 1],.row (.c 1 0) true T3 3] 4 [[.row (.t 0) true T3 3,.obj (.t 1) true 23 1,.row (.c 1 0) true T3 3]] (by kernel_rfl)
def qM(n:Nat):CL Tryz.prog:=⟨[],[qdy n,qce n,qbU n],0,nof⟩
def qcf(n:Nat):LK Tryz.prog false:=mkL tab (qM n) [] Tryz.f85 [true,true,false,false,false] 0 n [.v (.t 1) T3,.v (.t 6) T3,.v (.t 7) T3,.v (.t 8) T3,.row (.t 0) true T3 3,.fnc (.t 2) 88 [.box true 23 1],.row (.c 1 0) true T3 3] [(.exit 0,[.v (.t 1) T3,.v (.t 6) T3,.v (.t 7) T3,.row (.t 0) true T3 3,.fnc (.t 2) 88 [.box true 23 1],.row (.c 1 0) true T3 3])] (by kernel_rfl)
def qcg(n:Nat):LK Tryz.prog false:=mkL tab (qM n) [] Tryz.f85 [true,true,true,true,false,false,true,false,true,false,false,false] 2 n [.v (.t 1) T3,.v (.t 6) T3,.v (.t 7) T3,.v (.t 8) T3,.row (.t 0) true T3 3,.fnc (.t 2) 88 [.box true 23 1],.row (.c 1 0) true T3 3] [(.exit 4,[.v (.t 1) T3,.v (.t 6) T3,.v (.t 7) T3,.row (.t 0) true T3 3,.fnc (.t 2) 88 [.box true 23 1],.row (.c 1 0) true T3 3])] (by kernel_rfl)
def qch(n:Nat):LK Tryz.prog false:=mkL tab (qM n) [qcg n] Tryz.f85 [true,true,true,true,false,false] 1 n [.v (.t 1) T3,.v (.t 6) T3,.row (.t 0) true T3 3,.fnc (.t 2) 88 [.box true 23 1],.row (.c 1 0) true T3 3] [(.exit 2,[.row (.t 0) true T3 3,.fnc (.t 2) 88 [.box true 23 1],.row (.c 1 0) true T3 3])] (by kernel_rfl)
def qco(n:Nat):Cw Tryz.prog:=mkW tab (qM n) [qcf n,qch n] Tryz.func85 [.v (.t 1) T3,.row (.t 0) true T3 3,.fnc (.t 2) 88 [.box true 23 1],.row (.c 1 0) true T3 3] 3 [[.row (.t 0) true T3 3,.obj (.t 1) true 23 1,.row (.c 1 0) true T3 3]] (by kernel_rfl)
def qev(n:Nat):CL Tryz.prog:=⟨[],[qcZ n,qco n,qdy n],0,nof⟩
def qci(n:Nat):Cw Tryz.prog:=mkW tab (qev n) [] Tryz.func63 [.row (.t 0) true T3 3,.fnc (.t 1) 88 [.box true 23 1],.row (.c 1 0) true T3 3] 2 [[.row (.t 0) true T3 3,.obj (.t 1) true 23 1,.row (.c 1 0) true T3 3]] (by kernel_rfl)
def qd9(n:Nat):CL Tryz.prog:=⟨[],[qcU n,qci n,qiv n],1,nof⟩
def qf8(n:Nat):LK Tryz.prog false:=mkL tab (qd9 n) [] Tryz.f68 [true,true,true,false,true,false,false] 0 n [.v (.t 0) T92,.v (.t 21) T3,.v (.t 22) T3,.row (.t 1) true T3 3,.obj (.t 3) false 23 1,.al (.c 1 0) 0,.row (.t 6) false T3 3,.row (.t 7) false T3 3,.sub (.t 20) 0] [(.exit 0,[.v (.t 0) T92,.row (.t 1) true T3 3,.obj (.t 3) false 23 1,.al (.c 1 0) 0,.row (.t 6) false T3 3,.row (.t 7) false T3 3])] (by kernel_rfl)
def qf9(n:Nat):LK Tryz.prog false:=mkL tab (qd9 n) [] Tryz.f68 [true,true,true,true,true,false,true,false,false] 1 n [.v (.t 0) T92,.v (.t 37) T23,.v (.t 38) T3,.v (.t 39) T3,.row (.t 1) true T3 3,.obj (.t 3) false 23 1,.al (.c 1 0) 0,.row (.t 6) false T3 3] [(.exit 2,[.row (.t 1) true T3 3,.row (.t 6) false T3 3]),(.ret,[.v (.t 4) T23,.v (.t 5) T4,.row (.t 1) true T3 3])] (by kernel_rfl)
def qbc(n:Nat):Cw Tryz.prog:=mkW tab (qd9 n) [qf8 n,qf9 n] Tryz.func68 [.v (.t 0) T92,.row (.t 1) true T3 3] 2 [[.v (.t 0) T23,.v (.t 1) T4,.row (.t 2) true T3 3]] (by kernel_rfl)
def qfv(n:Nat):CL Tryz.prog:=⟨[],[],0,fun _=>false⟩
def qhB(n:Nat):Nat→St→PT (DEx×St):=fun _ _=>.fail
theorem qlK(n:Nat):qT (qfv n).c (qq Tryz.f47) 0=[]:=by kernel_rfl
theorem qlL:Tryz.f47.body=some (qq Tryz.f47):=by kernel_rfl
abbrev qfV:List Ar:=[.d T92]
abbrev qej:List Ty:=[T92]
def qh8(n:Nat)(x:qdR qfV):Option (qw qej):=(qcG tab (qfv n) (qhB n) (qq Tryz.f47) 0 (qfP qfV 4 x)).run (qwu 2 66 qej)
def qlM(n:Nat):Ct Tryz.prog:=⟨47,qfV,.fb 66 qej,qh8 n,fun _ _ h=>qxk (B:=tab) (cs:=qfv n) (lo:=qhB n) (i:=2) (g:=66) (caps:=qej) Tryz.func47 (by kernel_rfl) qlL (by kernel_rfl) (qj4 (qlK n) qgD) h⟩
end
set_option maxHeartbeats 4000000
abbrev OutT:=T92.den
def ptOf:Ty→Ty
 | .pt t=>t
 | t=>t
def tmGs(x:OutT):List (Int×(Int×Int)):=x.1.2.2.2.1
def tmCl(x:OutT):List Int:=x.1.2.2.2.2.1
def qkz(n:Nat)(x:OutT)(g:Nat):Option (Bool×Unit):=(qcn n).M (x,((g:Int),()))
def qi7(n:Nat)(x:OutT)(c:List Int):Option (List Int×(Bool×(List Int×Unit))):=(qbc n).M (x,(c,()))
def tmLd(n:Nat)(x:OutT)(g:Nat):Bool:=((qkz n x g).map fun y=>y.1).getD false
def tmRp(n:Nat)(x:OutT)(c:List Int):Option (List Int):=(qi7 n x c).bind fun y=>cond y.2.1 (some y.1) none
theorem qwX{n:Nat}{x:OutT}{g:Nat}{b:Bool}(h:qkz n x g=some (b,())):tmLd n x g=b:=by unfold tmLd;rw[h];rfl
theorem qwY{n:Nat}{x:OutT}{c o:List Int}{b:Bool}{u:List Int×Unit}(h:qi7 n x c=some (o,(b,u))):tmRp n x c=cond b (some o) none:=by unfold tmRp;rw[h];rfl
def tmO(n:Nat)(x:OutT):TmO where
 G:=(tmGs x).length
 clients:=tmCl x
 pts g:=(((tmGs x)[g]?).map fun z=>z.2.2).getD 0
 lead g:=tmLd n x g
 rop c:=tmRp n x c
structure TmOk (n:Nat) (x:OutT):Prop where
 gl:(tmGs x).length≤4
 cl:(tmCl x).length≤6
 cb:∀c,c∈tmCl x→1≤c∧c≤20
 gb:∀z,z∈tmGs x→z.2.2≤20
 ld:∀g:Nat,g<(tmGs x).length→∃b,qkz n x g=some (b,())
 rd:∀l:List Int,l.length=(tmGs x).length→(∀c,c∈l→0≤c∧c≤6)→∃o b,qi7 n x l=some (o,(b,(l,())))∧(b=false→o=[])
theorem MC.imp{P:Program}{f:FuncId}{args:List AV}{H:List HE}{R R':AV→List HE→Prop}(h:MC P f args H R)(hR:∀r H',R r H'→R' r H'):MC P f args H R' :=
 ⟨h.1,fun w S N vs hT hs=>(h.2 w S N vs hT hs).mono fun _ _ ⟨u,r,H',h1,h2,h3⟩=>⟨u,r,H',h1,hR r H' h2,h3⟩⟩
theorem qvV(n:Nat)(x:OutT)(l:List Int)(rc:Nat)(o:List Int)(b:Bool)(hl:l.length≤4)(h:qi7 n x l=some (o,(b,(l,())))) :
  MC Tryz.prog 68 [T92.argA x,.val (.slice (some ⟨rc,0,none⟩) l.length l.length)] [.blk rc 3 (ints l)] fun r H'=>H'=[.blk rc 3 (ints l)]∧r = .tup [slA intC 1 o,.val (.bool b)]:=by
 have h0:=(qbc n).ok (x,(l,())) (o,(b,(l,()))) h (fun _=>.slice (some ⟨rc,0,none⟩) l.length l.length) (fun _ _=>.inl ⟨_,_,_,rfl⟩)
 have hi:ints l=(l.map (T3.enc)).flatten:=by
  clear h h0 hl
  induction l with
  | nil=>rfl
  | cons a l ih =>
   show AV.int a::ints l=AV.int a::(List.map T3.enc l).flatten
   rw[ih]
 rw[hi]
 have e:qa (gOf (fun _=>.slice (some ⟨rc,0,none⟩) l.length l.length) (mkS (qbc n).ins (qbc n).p (x,(l,()))).H) (mkS (qbc n).ins (qbc n).p (x,(l,()))).T=[T92.argA x,.val (.slice (some ⟨rc,0,none⟩) l.length l.length)]:=by
  exact congrArg (fun z=>[AV.rp z,AV.val (.slice (some ⟨rc,0,none⟩) l.length l.length)]) (qcd (ptOf T92) x)
 rw[e] at h0
 refine (MC.blkOwn (by rw[← hi,qkx,Nat.mul_one]) (Nat.le_trans hl (by decide)) (MC.imp (H:=[HE.own (.slice (some ⟨rc,0,none⟩) l.length l.length) 3 1 l.length ((l.map (T3.enc)).flatten)]) (R':=fun r H'=>H'=[HE.own (.slice (some ⟨rc,0,none⟩) l.length l.length) 3 1 l.length ((l.map (T3.enc)).flatten)]∧r = .tup [slA intC 1 o,.val (.bool b)]) h0 fun r H' hr=>?_) fun r H' hr=>hr.1).imp fun r H' hr=>⟨hr.1,hr.2.2⟩
 obtain ⟨m1,hs,hm,hv,hH⟩:=hr
 have hm0:m1 0 = .slice (some ⟨rc,0,none⟩) l.length l.length:=hm 0 (by show 0<1;omega)
 refine ⟨?_,?_⟩
 ·rw[hH]
  show [HE.own (m1 0) _ _ _ _]=_
  rw[hm0]
  rfl
 ·rw[hv]
  rfl
theorem qvW(n:Nat)(x:OutT)(g:Nat)(b:Bool)(h:qkz n x g=some (b,())):PC Tryz.prog 69 [T92.argA x,.val (.int .i64 (g:Int))] (.val (.bool b)):=by
 have:=(qcn n).ok (x,((g:Int),())) (b,()) h
 have e:(qcn n).f=69:=rfl
 have e2:arsA (qcn n).ars (x,((g:Int),()))=[T92.argA x,.val (.int .i64 (g:Int))]:=rfl
 have e3:(qcn n).rs.A (b,()) = .val (.bool b):=rfl
 rw[e,e2,e3] at this
 exact this
attribute [irreducible] qkz qi7 tmLd tmRp
theorem qvX(n:Nat)(one:Bool)(x:OutT)(h:TmOk n x):ql2 Tryz.prog one 66 [] (qd6 [T92] (x,())) ((qg4 (tmO n x)).map (qrW one)):=by
 have hld:=fun g hg=>h.ld g hg
 have hrd:=fun l h1 h2=>h.rd l h1 h2
 have h1:∀g:Nat,g<(tmO n x).G→PC Tryz.prog 69 [T92.argA x,.int (g:Int)] (.bool ((tmO n x).lead g)):=fun g hg=>by
  obtain ⟨b,hb⟩:=h.ld g hg
  show PC Tryz.prog 69 [T92.argA x,.int (g:Int)] (.bool (tmLd n x g))
  rw[qwX hb]
  exact qvW n x g b hb
 have h2:∀(l:List Int) (rc:Nat),l.length=(tmO n x).G→(∀x∈l,0≤x∧x≤6)→MC Tryz.prog 68 [T92.argA x,.val (.slice (some ⟨rc,0,none⟩) l.length l.length)] [.blk rc 3 (ints l)] fun r H'=>H'=[.blk rc 3 (ints l)]∧qns ((tmO n x).rop l) r:=fun l rc hl hc=>by
  obtain ⟨o,b,hb,ho⟩:=h.rd l hl hc
  refine (qvV n x l rc o b (by rw[hl];exact h.gl) hb).imp fun r H' hr=>⟨hr.1,?_⟩
  show qns (tmRp n x l) r
  rw[qwY hb,hr.2]
  cases b with
  | true=>rfl
  | false=>rw[ho rfl];rfl
 have h3:∀k:Nat,k<(tmCl x).length→1≤cntN (tmCl x) k∧cntN (tmCl x) k≤20:=fun k hk=>by rw[qi6 _ _ hk];exact h.cb _ (List.getElem_mem hk)
 have h4:∀g:Nat,(tmO n x).pts g≤20:=fun g=>by
  show (((tmGs x)[g]?).map fun z=>z.2.2).getD 0≤20
  cases hx:(tmGs x)[g]? with
  | none=>simp
  | some z=>exact h.gb z (List.mem_of_getElem? hx)
 have h5:∀g:Nat,g<(tmO n x).G→∃a b,((tmGs x).map fun z=>[AV.val (.int .i64 z.1),.val (.int .i64 z.2.1),.val (.int .i64 z.2.2)])[g]?=some [a,b,.int ((tmO n x).pts g)]:=fun g hg=>by
  have hg':g<(tmGs x).length:=hg
  rw[List.getElem?_map,List.getElem?_eq_getElem hg']
  refine ⟨.val (.int .i64 (tmGs x)[g].1),.val (.int .i64 (tmGs x)[g].2.1),?_⟩
  rw[show (tmO n x).pts g=(tmGs x)[g].2.2 by show (((tmGs x)[g]?).map fun z=>z.2.2).getD 0=_;rw[List.getElem?_eq_getElem hg'];rfl]
  rfl
 have h6:∀k:Nat,k<(tmCl x).length→((tmCl x).map fun c=>[AV.val (.int .i64 c)])[k]?=some [.int (cntN (tmCl x) k)]:=fun k hk=>by
  rw[List.getElem?_map,List.getElem?_eq_getElem hk,qi6 _ _ hk];rfl
 have h7:((tmGs x).map fun z=>[AV.val (.int .i64 z.1),.val (.int .i64 z.2.1),.val (.int .i64 z.2.2)]).length=(tmO n x).G:=by rw[List.length_map];rfl
 have h8:((tmCl x).map fun c=>[AV.val (.int .i64 c)]).length=(tmCl x).length:=by rw[List.length_map]
 exact qvU (tmO n x) one _ _ _ _ _ _ _ _ _ _ _ h.gl h.cl h3 h4 h7 h5 h8 h6 h1 h2
open Classical in
def qlN(n:Nat)(x:OutT):Option (List (List Nat×List Int)):=if TmOk n x then some (qg4 (tmO n x)) else none
theorem quK{n:Nat}{x:OutT}(h:TmOk n x):qlN n x=some (qg4 (tmO n x)):=if_pos h
theorem quL{n:Nat}{x:OutT}{l:List (List Nat×List Int)}(h:qlN n x=some l):TmOk n x∧l=qg4 (tmO n x):=by
 unfold qlN at h
 split at h
 ·next hk=>injection h with h;exact ⟨hk,h.symm⟩
 ·cases h
def qnu(n:Nat)(x:T92.den):Option (List (qw [T23])):=(qlN n x).map fun l=>l.map fun e=>(e.2,())
def qwZ(n:Nat):Itr Tryz.prog:=⟨66,[T92],[T23],false,1,fun x=>qnu n x.1,fun x l h=>by
 unfold qnu at h
 obtain ⟨x,u⟩:=x
 cases ht:qlN n x with
 | none=>simp only[ht] at h;cases h
 | some m =>
  simp only[ht] at h
  injection h with h
  obtain ⟨h1,rfl⟩:=quL ht
  subst h
  show ql2 Tryz.prog false 66 [] (qd6 [T92] (x,())) (List.map (fun y:List Int×Unit=>List.replicate 1 AV.any++tysA [T23] y) (List.map (fun e:List Nat×List Int=>(e.2,())) (qg4 (tmO n x))))
  rw[List.map_map]
  exact qvX n false x h1⟩
section
def qiw(n:Nat):CL Tryz.prog:=⟨[qlM n],[qky n],0,nof⟩
def qpy(n:Nat):LK Tryz.prog true:=mkL tab (qiw n) [] Tryz.f23 [true,true,true,true,false,true,false,true,false,true,false,true,false,false] 1 n [.v (.t 9) T3,.v (.t 24) T23,.v (.t 25) T3,.v (.t 26) T3,.obj (.t 6) true 3 1,.v (.c 0 0) T3] [(.exit 2,[.v (.t 9) T3,.obj (.t 6) true 3 1,.v (.c 0 0) T3])] (by kernel_rfl)
def qk9(n:Nat):LK Tryz.prog false:=mkG tab (qiw n) [qpy n] Tryz.f23 [true,true,true,true,false,true,false] 0 21 [22,23] (qwZ n) [.obj (.t 6) false 3 1,.v (.c 0 0) T3] [] (by kernel_rfl)
def qlO(n:Nat):Ct Tryz.prog:=mkC tab (qiw n) [qk9 n] Tryz.func23 [.d T53] [T3,T28] (by kernel_rfl)
end
end
end Go.Proofs.YtbdockhccdkdiaaGreat
