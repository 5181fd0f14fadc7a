/- Texts DnW, DnX, DnY in one. -/
import Derived.Test.YtfnflenkeljkiaaGreatNf
import Derived.Test.YtfnflenkeljkiaaGreatTg
/- Printed: what functions of the program compute. -/
set_option linter.constructorNameAsVariable false
set_option linter.unusedSimpArgs false
set_option linter.unusedVariables false
set_option linter.unusedSectionVars false
namespace Go.Proofs.YtfnflenkeljkiaaGreat
open Go Go.Proofs Go.RowKit
set_option maxRecDepth 20000
noncomputable section
section
def qnp(n:Nat):CL Tryz.prog:=⟨[],[],0,nof⟩
def qdc(n:Nat):Ct Tryz.prog:=mkC tab (qnp n) [] Tryz.func52 [.d T74,.d T3] [T4] (by kernel_rfl)
def qpS(n:Nat):CL Tryz.prog:=⟨[],[],0,nof⟩
def qqG(n:Nat):Ct Tryz.prog:=mkC tab (qpS n) [] Tryz.func99 [.d T142,.d T142] [T142,T142] (by kernel_rfl)
def qrs(n:Nat):CL Tryz.prog:=⟨[qqG n],[],0,nof⟩
def qsd(n:Nat):Ct Tryz.prog:=mkC tab (qrs n) [] Tryz.func81 [.d T127,.d T127] [T127,T127] (by kernel_rfl)
def qjO(n:Nat):CL Tryz.prog:=⟨[qsd n],[],0,nof⟩
def qnS(n:Nat):LK Tryz.prog false:=mkL tab (qjO n) [] Tryz.f58 [true,true,true,true,true,true,false,false,false] 0 n [.v (.t 8) T3,.row (.t 7) false T3 3] [(.exit 0,[.row (.t 7) false T3 3])] (by kernel_rfl)
def qfG(n:Nat):Cw Tryz.prog:=mkW tab (qjO n) [qnS n] Tryz.func58 [.v (.t 0) T23,.v (.t 1) T3] 2 [[.row (.t 0) false T3 3]] (by kernel_rfl)
def qpa(n:Nat):CL Tryz.prog:=⟨[qja n],[],0,nof⟩
def qgx(n:Nat):Cw Tryz.prog:=mkW tab (qpa n) [] Tryz.func47 [.v (.t 0) T3,.v (.t 1) T3,.obj (.t 2) true 29 10,.v (.c 0 0) T29] 3 [[.v (.t 0) T3,.obj (.t 1) true 29 10,.v (.c 0 0) T29]] (by kernel_rfl)
def qbI(n:Nat):CL Tryz.prog:=⟨[],[qgx n],0,nof⟩
def qcY(n:Nat):LK Tryz.prog false:=mkL tab (qbI n) [] Tryz.f96 [true,false,false,true,false,false,true,false,false] 1 n [.v (.t 1) T3,.v (.t 2) T3,.v (.t 8) T3,.v (.t 9) T3,.row (.t 0) true T3 3,.fnc (.t 3) 47 [.box true 29 10],.v (.c 1 0) T29] [(.exit 2,[.v (.t 1) T3,.v (.t 2) T3,.v (.t 8) T3,.row (.t 0) true T3 3,.fnc (.t 3) 47 [.box true 29 10],.v (.c 1 0) T29])] (by kernel_rfl)
def qcZ(n:Nat):LK Tryz.prog false:=mkL tab (qbI n) [qcY n] Tryz.f96 [true,false,false] 0 n [.v (.t 1) T3,.v (.t 2) T3,.v (.t 8) T3,.row (.t 0) true T3 3,.fnc (.t 3) 47 [.box true 29 10],.v (.c 1 0) T29] [(.exit 0,[.row (.t 0) true T3 3,.fnc (.t 3) 47 [.box true 29 10],.v (.c 1 0) T29])] (by kernel_rfl)
def qbP(n:Nat):Cw Tryz.prog:=mkW tab (qbI n) [qcZ n] Tryz.func96 [.v (.t 1) T3,.v (.t 2) T3,.row (.t 0) true T3 3,.fnc (.t 3) 47 [.box true 29 10],.v (.c 1 0) T29] 4 [[.row (.t 0) true T3 3,.obj (.t 1) true 29 10,.v (.c 1 0) T29]] (by kernel_rfl)
def qbu(n:Nat):CL Tryz.prog:=⟨[],[qgx n,qbP n],0,nof⟩
def qdJ(n:Nat):LK Tryz.prog false:=mkL tab (qbu n) [] Tryz.f75 [true,true,false,false,false] 0 n [.v (.t 1) T3,.v (.t 6) T3,.v (.t 7) T3,.v (.t 8) T3,.row (.t 0) true T3 3,.fnc (.t 2) 47 [.box true 29 10],.v (.c 1 0) T29] [(.exit 0,[.v (.t 1) T3,.v (.t 6) T3,.v (.t 7) T3,.row (.t 0) true T3 3,.fnc (.t 2) 47 [.box true 29 10],.v (.c 1 0) T29])] (by kernel_rfl)
def qdK(n:Nat):LK Tryz.prog false:=mkL tab (qbu n) [] Tryz.f75 [true,true,true,true,false,false,true,false,true,false,false,false] 2 n [.v (.t 1) T3,.v (.t 6) T3,.v (.t 7) T3,.v (.t 8) T3,.row (.t 0) true T3 3,.fnc (.t 2) 47 [.box true 29 10],.v (.c 1 0) T29] [(.exit 4,[.v (.t 1) T3,.v (.t 6) T3,.v (.t 7) T3,.row (.t 0) true T3 3,.fnc (.t 2) 47 [.box true 29 10],.v (.c 1 0) T29])] (by kernel_rfl)
def qdL(n:Nat):LK Tryz.prog false:=mkL tab (qbu n) [qdK n] Tryz.f75 [true,true,true,true,false,false] 1 n [.v (.t 1) T3,.v (.t 6) T3,.row (.t 0) true T3 3,.fnc (.t 2) 47 [.box true 29 10],.v (.c 1 0) T29] [(.exit 2,[.row (.t 0) true T3 3,.fnc (.t 2) 47 [.box true 29 10],.v (.c 1 0) T29])] (by kernel_rfl)
def qcx(n:Nat):Cw Tryz.prog:=mkW tab (qbu n) [qdJ n,qdL n] Tryz.func75 [.v (.t 1) T3,.row (.t 0) true T3 3,.fnc (.t 2) 47 [.box true 29 10],.v (.c 1 0) T29] 3 [[.row (.t 0) true T3 3,.obj (.t 1) true 29 10,.v (.c 1 0) T29]] (by kernel_rfl)
def qgy(n:Nat):CL Tryz.prog:=⟨[],[qgx n,qcx n],0,nof⟩
def qcq(n:Nat):Cw Tryz.prog:=mkW tab (qgy n) [] Tryz.func46 [.row (.t 0) true T3 3,.fnc (.t 1) 47 [.box true 29 10],.v (.c 1 0) T29] 2 [[.row (.t 0) true T3 3,.obj (.t 1) true 29 10,.v (.c 1 0) T29]] (by kernel_rfl)
def qlB(n:Nat):CL Tryz.prog:=⟨[qo4 n,qlA n,qke n],[qcq n],0,nof⟩
def qlC(n:Nat):LK Tryz.prog false:=mkL tab (qlB n) [] Tryz.f24 [true,true,true,false,true,false,false] 0 n [.v (.t 21) T27,.v (.t 22) T3,.v (.t 23) T3,.obj (.t 1) false 29 10,.v (.c 0 0) T29,.obj (.t 5) false 103 11,.v (.c 1 0) T29,.row (.c 1 10) false T3 3,.obj (.t 6) false 105 4,.v (.c 3 0) T105] [(.exit 0,[.obj (.t 1) false 29 10,.v (.c 0 0) T29,.obj (.t 5) false 103 11,.v (.c 1 0) T29,.row (.c 1 10) false T3 3])] (by kernel_rfl)
def qjz(n:Nat):Cw Tryz.prog:=mkW tab (qlB n) [qlC n] Tryz.func24 [.v (.t 0) T29] 1 [[.v (.t 0) T74,.v (.t 1) T36],[.nilp (.t 0),.v (.t 1) T36]] (by kernel_rfl)
def qlW(n:Nat):CL Tryz.prog:=⟨[qja n],[],0,nof⟩
def qep(n:Nat):Cw Tryz.prog:=mkW tab (qlW n) [] Tryz.func77 [.v (.t 0) T3,.v (.t 1) T3,.obj (.t 2) true 23 1,.row (.c 0 0) true T3 3] 3 [[.v (.t 0) T3,.obj (.t 1) true 23 1,.row (.c 0 0) true T3 3]] (by kernel_rfl)
def qbn(n:Nat):CL Tryz.prog:=⟨[],[qep n],0,nof⟩
def qcz(n:Nat):LK Tryz.prog false:=mkL tab (qbn n) [] Tryz.f96 [true,false,false,true,false,false,true,false,false] 1 n [.v (.t 1) T3,.v (.t 2) T3,.v (.t 8) T3,.v (.t 9) T3,.row (.t 0) true T3 3,.fnc (.t 3) 77 [.box true 23 1],.row (.c 1 0) true T3 3] [(.exit 2,[.v (.t 1) T3,.v (.t 2) T3,.v (.t 8) T3,.row (.t 0) true T3 3,.fnc (.t 3) 77 [.box true 23 1],.row (.c 1 0) true T3 3])] (by kernel_rfl)
def qcA(n:Nat):LK Tryz.prog false:=mkL tab (qbn n) [qcz n] Tryz.f96 [true,false,false] 0 n [.v (.t 1) T3,.v (.t 2) T3,.v (.t 8) T3,.row (.t 0) true T3 3,.fnc (.t 3) 77 [.box true 23 1],.row (.c 1 0) true T3 3] [(.exit 0,[.row (.t 0) true T3 3,.fnc (.t 3) 77 [.box true 23 1],.row (.c 1 0) true T3 3])] (by kernel_rfl)
def qcE(n:Nat):Cw Tryz.prog:=mkW tab (qbn n) [qcA n] Tryz.func96 [.v (.t 1) T3,.v (.t 2) T3,.row (.t 0) true T3 3,.fnc (.t 3) 77 [.box true 23 1],.row (.c 1 0) true T3 3] 4 [[.row (.t 0) true T3 3,.obj (.t 1) true 23 1,.row (.c 1 0) true T3 3]] (by kernel_rfl)
def qbd(n:Nat):CL Tryz.prog:=⟨[],[qep n,qbP n,qcE n],0,nof⟩
def qc3(n:Nat):LK Tryz.prog false:=mkL tab (qbd n) [] Tryz.f75 [true,true,false,false,false] 0 n [.v (.t 1) T3,.v (.t 6) T3,.v (.t 7) T3,.v (.t 8) T3,.row (.t 0) true T3 3,.fnc (.t 2) 77 [.box true 23 1],.row (.c 1 0) true T3 3] [(.exit 0,[.v (.t 1) T3,.v (.t 6) T3,.v (.t 7) T3,.row (.t 0) true T3 3,.fnc (.t 2) 77 [.box true 23 1],.row (.c 1 0) true T3 3])] (by kernel_rfl)
def qc4(n:Nat):LK Tryz.prog false:=mkL tab (qbd n) [] Tryz.f75 [true,true,true,true,false,false,true,false,true,false,false,false] 2 n [.v (.t 1) T3,.v (.t 6) T3,.v (.t 7) T3,.v (.t 8) T3,.row (.t 0) true T3 3,.fnc (.t 2) 77 [.box true 23 1],.row (.c 1 0) true T3 3] [(.exit 4,[.v (.t 1) T3,.v (.t 6) T3,.v (.t 7) T3,.row (.t 0) true T3 3,.fnc (.t 2) 77 [.box true 23 1],.row (.c 1 0) true T3 3])] (by kernel_rfl)
def qc5(n:Nat):LK Tryz.prog false:=mkL tab (qbd n) [qc4 n] Tryz.f75 [true,true,true,true,false,false] 1 n [.v (.t 1) T3,.v (.t 6) T3,.row (.t 0) true T3 3,.fnc (.t 2) 77 [.box true 23 1],.row (.c 1 0) true T3 3] [(.exit 2,[.row (.t 0) true T3 3,.fnc (.t 2) 77 [.box true 23 1],.row (.c 1 0) true T3 3])] (by kernel_rfl)
def qdd(n:Nat):Cw Tryz.prog:=mkW tab (qbd n) [qc3 n,qc5 n] Tryz.func75 [.v (.t 1) T3,.row (.t 0) true T3 3,.fnc (.t 2) 77 [.box true 23 1],.row (.c 1 0) true T3 3] 3 [[.row (.t 0) true T3 3,.obj (.t 1) true 23 1,.row (.c 1 0) true T3 3]] (by kernel_rfl)
def qfy(n:Nat):CL Tryz.prog:=⟨[],[qcx n,qdd n,qep n],0,nof⟩
def qc6(n:Nat):Cw Tryz.prog:=mkW tab (qfy n) [] Tryz.func46 [.row (.t 0) true T3 3,.fnc (.t 1) 77 [.box true 23 1],.row (.c 1 0) true T3 3] 2 [[.row (.t 0) true T3 3,.obj (.t 1) true 23 1,.row (.c 1 0) true T3 3]] (by kernel_rfl)
def qe2(n:Nat):CL Tryz.prog:=⟨[],[qcq n,qc6 n,qfG n],1,nof⟩
def qhi(n:Nat):LK Tryz.prog false:=mkL tab (qe2 n) [] Tryz.f51 [true,true,true,false,true,false,false] 0 n [.v (.t 0) T74,.v (.t 21) T3,.v (.t 22) T3,.row (.t 1) true T3 3,.obj (.t 3) false 23 1,.al (.c 1 0) 0,.row (.t 6) false T3 3,.row (.t 7) false T3 3,.sub (.t 20) 0] [(.exit 0,[.v (.t 0) T74,.row (.t 1) true T3 3,.obj (.t 3) false 23 1,.al (.c 1 0) 0,.row (.t 6) false T3 3,.row (.t 7) false T3 3])] (by kernel_rfl)
def qhj(n:Nat):LK Tryz.prog false:=mkL tab (qe2 n) [] Tryz.f51 [true,true,true,true,true,false,true,false,false] 1 n [.v (.t 0) T74,.v (.t 37) T23,.v (.t 38) T3,.v (.t 39) T3,.row (.t 1) true T3 3,.obj (.t 3) false 23 1,.al (.c 1 0) 0,.row (.t 6) false T3 3] [(.exit 2,[.row (.t 1) true T3 3,.row (.t 6) false T3 3]),(.ret,[.v (.t 4) T23,.v (.t 5) T4,.row (.t 1) true T3 3])] (by kernel_rfl)
def qbD(n:Nat):Cw Tryz.prog:=mkW tab (qe2 n) [qhi n,qhj n] Tryz.func51 [.v (.t 0) T74,.row (.t 1) true T3 3] 2 [[.v (.t 0) T23,.v (.t 1) T4,.row (.t 2) true T3 3]] (by kernel_rfl)
def qgK(n:Nat):CL Tryz.prog:=⟨[],[],0,fun _=>false⟩
def qji(n:Nat):Nat→St→PT (DEx×St):=fun _ _=>.fail
theorem qnT(n:Nat):qcm (qgK n).c (qbH Tryz.f25) 0=[]:=by kernel_rfl
theorem qnU:Tryz.f25.body=some (qbH Tryz.f25):=by kernel_rfl
abbrev qg7:List Ar:=[.d T74]
abbrev qfi:List Ty:=[T74]
def qjP(n:Nat)(x:qeo qg7):Option (qx qfi):=(qff tab (qgK n) (qji n) (qbH Tryz.f25) 0 (qg5 qg7 4 x)).run (qww 2 49 qfi)
def qjQ(n:Nat):Ct Tryz.prog:=⟨25,qg7,.fb 49 qfi,qjP n,fun _ _ h=>qxw (B:=tab) (cs:=qgK n) (lo:=qji n) (i:=2) (g:=49) (caps:=qfi) Tryz.func25 (by kernel_rfl) qnU (by kernel_rfl) (qr7 (qnT n) qnP) h⟩
end
set_option maxHeartbeats 4000000
abbrev OutT:=T74.den
def ptOf:Ty→Ty
 | .pt t=>t
 | t=>t
def tmGs(x:OutT):List (Int×(Int×Int)):=x.1.2.2.2.1
def tmCl(x:OutT):List Int:=x.1.2.2.2.2.1
def qml(n:Nat)(x:OutT)(g:Nat):Option (Bool×Unit):=(qdc n).M (x,((g:Int),()))
def qkS(n:Nat)(x:OutT)(c:List Int):Option (List Int×(Bool×(List Int×Unit))):=(qbD n).M (x,(c,()))
def tmLd(n:Nat)(x:OutT)(g:Nat):Bool:=((qml n x g).map fun y=>y.1).getD false
def tmRp(n:Nat)(x:OutT)(c:List Int):Option (List Int):=(qkS n x c).bind fun y=>cond y.2.1 (some y.1) none
theorem qvU{n:Nat}{x:OutT}{g:Nat}{b:Bool}(h:qml n x g=some (b,())):tmLd n x g=b:=by unfold tmLd;rw[h];rfl
theorem qsS{n:Nat}{x:OutT}{c o:List Int}{b:Bool}{u:List Int×Unit}(h:qkS n x c=some (o,(b,u))):tmRp n x c=cond b (some o) none:=by unfold tmRp;rw[h];rfl
def tmO(n:Nat)(x:OutT):TmO where
 G:=(tmGs x).length
 clients:=tmCl x
 pts g:=(((tmGs x)[g]?).map fun z=>z.2.2).getD 0
 lead g:=tmLd n x g
 rop c:=tmRp n x c
structure TmOk (n:Nat) (x:OutT):Prop where
 gl:(tmGs x).length≤4
 cl:(tmCl x).length≤6
 cb:∀c,c∈tmCl x→1≤c∧c≤20
 gb:∀z,z∈tmGs x→z.2.2≤20
 ld:∀g:Nat,g<(tmGs x).length→∃b,qml n x g=some (b,())
 rd:∀l:List Int,l.length=(tmGs x).length→(∀c,c∈l→0≤c∧c≤6)→∃o b,qkS n x l=some (o,(b,(l,())))∧(b=false→o=[])
theorem MC.imp{P:Program}{f:FuncId}{args:List AV}{H:List HE}{R R':AV→List HE→Prop}(h:MC P f args H R)(hR:∀r H',R r H'→R' r H'):MC P f args H R' :=
 ⟨h.1,fun w S N vs hT hs=>(h.2 w S N vs hT hs).mono fun _ _ ⟨u,r,H',h1,h2,h3⟩=>⟨u,r,H',h1,hR r H' h2,h3⟩⟩
theorem qy1(n:Nat)(x:OutT)(l:List Int)(rc:Nat)(o:List Int)(b:Bool)(hl:l.length≤4)(h:qkS n x l=some (o,(b,(l,())))) :
  MC Tryz.prog 51 [T74.argA x,.val (.slice (some ⟨rc,0,none⟩) l.length l.length)] [.blk rc 3 (ints l)] fun r H'=>H'=[.blk rc 3 (ints l)]∧r = .tup [slA intC 1 o,.val (.bool b)]:=by
 have h0:=(qbD n).ok (x,(l,())) (o,(b,(l,()))) h (fun _=>.slice (some ⟨rc,0,none⟩) l.length l.length) (fun _ _=>.inl ⟨_,_,_,rfl⟩)
 have hi:ints l=(l.map (T3.enc)).flatten:=by
  clear h h0 hl
  induction l with
  | nil=>rfl
  | cons a l ih =>
   show AV.int a::ints l=AV.int a::(List.map T3.enc l).flatten
   rw[ih]
 rw[hi]
 have e:qa (gOf (fun _=>.slice (some ⟨rc,0,none⟩) l.length l.length) (mkS (qbD n).ins (qbD n).p (x,(l,()))).H) (mkS (qbD n).ins (qbD n).p (x,(l,()))).T=[T74.argA x,.val (.slice (some ⟨rc,0,none⟩) l.length l.length)]:=by
  exact congrArg (fun z=>[AV.rp z,AV.val (.slice (some ⟨rc,0,none⟩) l.length l.length)]) (qc2 (ptOf T74) x)
 rw[e] at h0
 refine (MC.blkOwn (by rw[← hi,qmk,Nat.mul_one]) (Nat.le_trans hl (by decide)) (MC.imp (H:=[HE.own (.slice (some ⟨rc,0,none⟩) l.length l.length) 3 1 l.length ((l.map (T3.enc)).flatten)]) (R':=fun r H'=>H'=[HE.own (.slice (some ⟨rc,0,none⟩) l.length l.length) 3 1 l.length ((l.map (T3.enc)).flatten)]∧r = .tup [slA intC 1 o,.val (.bool b)]) h0 fun r H' hr=>?_) fun r H' hr=>hr.1).imp fun r H' hr=>⟨hr.1,hr.2.2⟩
 obtain ⟨m1,hs,hm,hv,hH⟩:=hr
 have hm0:m1 0 = .slice (some ⟨rc,0,none⟩) l.length l.length:=hm 0 (by show 0<1;omega)
 refine ⟨?_,?_⟩
 ·rw[hH]
  show [HE.own (m1 0) _ _ _ _]=_
  rw[hm0]
  rfl
 ·rw[hv]
  rfl
theorem qy2(n:Nat)(x:OutT)(g:Nat)(b:Bool)(h:qml n x g=some (b,())):PC Tryz.prog 52 [T74.argA x,.val (.int .i64 (g:Int))] (.val (.bool b)):=by
 have:=(qdc n).ok (x,((g:Int),())) (b,()) h
 have e:(qdc n).f=52:=rfl
 have e2:arsA (qdc n).ars (x,((g:Int),()))=[T74.argA x,.val (.int .i64 (g:Int))]:=rfl
 have e3:(qdc n).rs.A (b,()) = .val (.bool b):=rfl
 rw[e,e2,e3] at this
 exact this
attribute [irreducible] qml qkS tmLd tmRp
theorem quQ(n:Nat)(one:Bool)(x:OutT)(h:TmOk n x):qkZ Tryz.prog one 49 [] (qd6 [T74] (x,())) ((qdI (tmO n x)).map (quP one)):=by
 have hld:=fun g hg=>h.ld g hg
 have hrd:=fun l h1 h2=>h.rd l h1 h2
 have h1:∀g:Nat,g<(tmO n x).G→PC Tryz.prog 52 [T74.argA x,.int (g:Int)] (.bool ((tmO n x).lead g)):=fun g hg=>by
  obtain ⟨b,hb⟩:=h.ld g hg
  show PC Tryz.prog 52 [T74.argA x,.int (g:Int)] (.bool (tmLd n x g))
  rw[qvU hb]
  exact qy2 n x g b hb
 have h2:∀(l:List Int) (rc:Nat),l.length=(tmO n x).G→(∀x∈l,0≤x∧x≤6)→MC Tryz.prog 51 [T74.argA x,.val (.slice (some ⟨rc,0,none⟩) l.length l.length)] [.blk rc 3 (ints l)] fun r H'=>H'=[.blk rc 3 (ints l)]∧qpR ((tmO n x).rop l) r:=fun l rc hl hc=>by
  obtain ⟨o,b,hb,ho⟩:=h.rd l hl hc
  refine (qy1 n x l rc o b (by rw[hl];exact h.gl) hb).imp fun r H' hr=>⟨hr.1,?_⟩
  show qpR (tmRp n x l) r
  rw[qsS hb,hr.2]
  cases b with
  | true=>rfl
  | false=>rw[ho rfl];rfl
 have h3:∀k:Nat,k<(tmCl x).length→1≤cntN (tmCl x) k∧cntN (tmCl x) k≤20:=fun k hk=>by rw[qkR _ _ hk];exact h.cb _ (List.getElem_mem hk)
 have h4:∀g:Nat,(tmO n x).pts g≤20:=fun g=>by
  show (((tmGs x)[g]?).map fun z=>z.2.2).getD 0≤20
  cases hx:(tmGs x)[g]? with
  | none=>simp
  | some z=>exact h.gb z (List.mem_of_getElem? hx)
 have h5:∀g:Nat,g<(tmO n x).G→∃a b,((tmGs x).map fun z=>[AV.val (.int .i64 z.1),.val (.int .i64 z.2.1),.val (.int .i64 z.2.2)])[g]?=some [a,b,.int ((tmO n x).pts g)]:=fun g hg=>by
  have hg':g<(tmGs x).length:=hg
  rw[List.getElem?_map,List.getElem?_eq_getElem hg']
  refine ⟨.val (.int .i64 (tmGs x)[g].1),.val (.int .i64 (tmGs x)[g].2.1),?_⟩
  rw[show (tmO n x).pts g=(tmGs x)[g].2.2 by show (((tmGs x)[g]?).map fun z=>z.2.2).getD 0=_;rw[List.getElem?_eq_getElem hg'];rfl]
  rfl
 have h6:∀k:Nat,k<(tmCl x).length→((tmCl x).map fun c=>[AV.val (.int .i64 c)])[k]?=some [.int (cntN (tmCl x) k)]:=fun k hk=>by
  rw[List.getElem?_map,List.getElem?_eq_getElem hk,qkR _ _ hk];rfl
 have h7:((tmGs x).map fun z=>[AV.val (.int .i64 z.1),.val (.int .i64 z.2.1),.val (.int .i64 z.2.2)]).length=(tmO n x).G:=by rw[List.length_map];rfl
 have h8:((tmCl x).map fun c=>[AV.val (.int .i64 c)]).length=(tmCl x).length:=by rw[List.length_map]
 exact qy0 (tmO n x) one _ _ _ _ _ _ _ _ _ _ _ h.gl h.cl h3 h4 h7 h5 h8 h6 h1 h2
open Classical in
def qli(n:Nat)(x:OutT):Option (List (List Nat×List Int)):=if TmOk n x then some (qdI (tmO n x)) else none
theorem qtA{n:Nat}{x:OutT}(h:TmOk n x):qli n x=some (qdI (tmO n x)):=if_pos h
theorem qtB{n:Nat}{x:OutT}{l:List (List Nat×List Int)}(h:qli n x=some l):TmOk n x∧l=qdI (tmO n x):=by
 unfold qli at h
 split at h
 ·next hk=>injection h with h;exact ⟨hk,h.symm⟩
 ·cases h
def qpT(n:Nat)(x:T74.den):Option (List (qx [T23])):=(qli n x).map fun l=>l.map fun e=>(e.2,())
def qpU(n:Nat)(x:T74.den):Option (List (qx [T23,T23])):=(qli n x).map fun l=>l.map fun e=>(e.1.map fun g:Nat=>(g:Int),(e.2,()))
def qz8(n:Nat):Itr Tryz.prog:=⟨49,[T74],[T23],false,1,fun x=>qpT n x.1,fun x l h=>by
 unfold qpT at h
 obtain ⟨x,u⟩:=x
 cases ht:qli n x with
 | none=>simp only[ht] at h;cases h
 | some m =>
  simp only[ht] at h
  injection h with h
  obtain ⟨h1,rfl⟩:=qtB ht
  subst h
  show qkZ Tryz.prog false 49 [] (qd6 [T74] (x,())) (List.map (fun y:List Int×Unit=>List.replicate 1 AV.any++tysA [T23] y) (List.map (fun e:List Nat×List Int=>(e.2,())) (qdI (tmO n x))))
  rw[List.map_map]
  exact quQ n false x h1⟩
def qy3(n:Nat):Itr Tryz.prog:=⟨49,[T74],[T23,T23],true,0,fun x=>qpU n x.1,fun x l h=>by
 unfold qpU at h
 obtain ⟨x,u⟩:=x
 cases ht:qli n x with
 | none=>simp only[ht] at h;cases h
 | some m =>
  simp only[ht] at h
  injection h with h
  obtain ⟨h1,rfl⟩:=qtB ht
  subst h
  have e:=quQ n true x h1
  show qkZ Tryz.prog true 49 [] (qd6 [T74] (x,())) (List.map (fun y:List Int×(List Int×Unit)=>List.replicate 0 AV.any++tysA [T23,T23] y) (List.map (fun e:List Nat×List Int=>(e.1.map fun g:Nat=>(g:Int),(e.2,()))) (qdI (tmO n x))))
  rw[List.map_map]
  refine (congrArg (fun f=>qkZ Tryz.prog true 49 [] (qd6 [T74] (x,())) ((qdI (tmO n x)).map f)) (funext fun y=>?_)).mp e
  show [AV.sl 1 (y.1.map fun a:Nat=>[AV.val (.int .i64 (a:Int))]),slA intC 1 y.2]=[AV.sl 1 ((y.1.map fun g:Nat=>(g:Int)).map fun a:Int=>[AV.val (.int .i64 a)]),_]
  rw[List.map_map]
  rfl⟩
section
def qkf(n:Nat):CL Tryz.prog:=⟨[qjQ n],[qjz n],0,nof⟩
def qse(n:Nat):LK Tryz.prog true:=mkL tab (qkf n) [] Tryz.f22 [true,true,true,true,false,true,false,true,false,true,false,true,false,false] 1 n [.v (.t 9) T3,.v (.t 24) T23,.v (.t 25) T3,.v (.t 26) T3,.obj (.t 6) true 3 1,.v (.c 0 0) T3] [(.exit 2,[.v (.t 9) T3,.obj (.t 6) true 3 1,.v (.c 0 0) T3])] (by kernel_rfl)
def qm8(n:Nat):LK Tryz.prog false:=mkG tab (qkf n) [qse n] Tryz.f22 [true,true,true,true,false,true,false] 0 21 [22,23] (qz8 n) [.obj (.t 6) false 3 1,.v (.c 0 0) T3] [] (by kernel_rfl)
def qnV(n:Nat):Ct Tryz.prog:=mkC tab (qkf n) [qm8 n] Tryz.func22 [.d T29] [T3,T36] (by kernel_rfl)
end
end
end Go.Proofs.YtfnflenkeljkiaaGreat
