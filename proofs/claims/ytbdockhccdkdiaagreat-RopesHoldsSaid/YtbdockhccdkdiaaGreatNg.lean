/- Texts DnW, DnX, DnY in one. -/
import Derived.Test.YtbdockhccdkdiaaGreatNf
import Derived.Test.YtbdockhccdkdiaaGreatTg
/- Printed: what functions of the program compute. -/
set_option linter.constructorNameAsVariable false
set_option linter.unusedSimpArgs false
set_option linter.unusedVariables false
set_option linter.unusedSectionVars false
namespace Go.Proofs.YtbdockhccdkdiaaGreat
open Go Go.Proofs Go.RowKit
set_option maxRecDepth 20000
noncomputable section
section
def qla(n:Nat):CL Tryz.prog:=⟨[],[],0,nof⟩
def qcl(n:Nat):Ct Tryz.prog:=mkC tab (qla n) [] Tryz.func69 [.d T92,.d T3] [T4] (by kernel_rfl)
def qnk(n:Nat):CL Tryz.prog:=⟨[],[],0,nof⟩
def qnV(n:Nat):Ct Tryz.prog:=mkC tab (qnk n) [] Tryz.func125 [.d T136,.d T136] [T136,T136] (by kernel_rfl)
def qoG(n:Nat):CL Tryz.prog:=⟨[qnV n],[],0,nof⟩
def qpu(n:Nat):Ct Tryz.prog:=mkC tab (qoG n) [] Tryz.func112 [.d T44,.d T44] [T44,T44] (by kernel_rfl)
def qhY(n:Nat):CL Tryz.prog:=⟨[qpu n],[],0,nof⟩
def qlz(n:Nat):LK Tryz.prog false:=mkL tab (qhY n) [] Tryz.f87 [true,true,true,true,true,true,false,false,false] 0 n [.v (.t 8) T3,.row (.t 7) false T3 3] [(.exit 0,[.row (.t 7) false T3 3])] (by kernel_rfl)
def qiq(n:Nat):Cw Tryz.prog:=mkW tab (qhY n) [qlz n] Tryz.func87 [.v (.t 0) T23,.v (.t 1) T3] 2 [[.row (.t 0) false T3 3]] (by kernel_rfl)
def qmF(n:Nat):CL Tryz.prog:=⟨[qfA n],[],0,nof⟩
def qgY(n:Nat):Cw Tryz.prog:=mkW tab (qmF n) [] Tryz.func64 [.v (.t 0) T3,.v (.t 1) T3,.obj (.t 2) true 53 10,.v (.c 0 0) T53] 3 [[.v (.t 0) T3,.obj (.t 1) true 53 10,.v (.c 0 0) T53]] (by kernel_rfl)
def qbb(n:Nat):CL Tryz.prog:=⟨[],[qgY n],0,nof⟩
def qen(n:Nat):LK Tryz.prog false:=mkL tab (qbb n) [] Tryz.f110 [true,false,false,true,false,false,true,false,false] 1 n [.v (.t 1) T3,.v (.t 2) T3,.v (.t 8) T3,.v (.t 9) T3,.row (.t 0) true T3 3,.fnc (.t 3) 64 [.box true 53 10],.v (.c 1 0) T53] [(.exit 2,[.v (.t 1) T3,.v (.t 2) T3,.v (.t 8) T3,.row (.t 0) true T3 3,.fnc (.t 3) 64 [.box true 53 10],.v (.c 1 0) T53])] (by kernel_rfl)
def qeo(n:Nat):LK Tryz.prog false:=mkL tab (qbb n) [qen n] Tryz.f110 [true,false,false] 0 n [.v (.t 1) T3,.v (.t 2) T3,.v (.t 8) T3,.row (.t 0) true T3 3,.fnc (.t 3) 64 [.box true 53 10],.v (.c 1 0) T53] [(.exit 0,[.row (.t 0) true T3 3,.fnc (.t 3) 64 [.box true 53 10],.v (.c 1 0) T53])] (by kernel_rfl)
def qcd(n:Nat):Cw Tryz.prog:=mkW tab (qbb n) [qeo n] Tryz.func110 [.v (.t 1) T3,.v (.t 2) T3,.row (.t 0) true T3 3,.fnc (.t 3) 64 [.box true 53 10],.v (.c 1 0) T53] 4 [[.row (.t 0) true T3 3,.obj (.t 1) true 53 10,.v (.c 1 0) T53]] (by kernel_rfl)
def qT(n:Nat):CL Tryz.prog:=⟨[],[qgY n,qcd n],0,nof⟩
def qfi(n:Nat):LK Tryz.prog false:=mkL tab (qT n) [] Tryz.f85 [true,true,false,false,false] 0 n [.v (.t 1) T3,.v (.t 6) T3,.v (.t 7) T3,.v (.t 8) T3,.row (.t 0) true T3 3,.fnc (.t 2) 64 [.box true 53 10],.v (.c 1 0) T53] [(.exit 0,[.v (.t 1) T3,.v (.t 6) T3,.v (.t 7) T3,.row (.t 0) true T3 3,.fnc (.t 2) 64 [.box true 53 10],.v (.c 1 0) T53])] (by kernel_rfl)
def qfj(n:Nat):LK Tryz.prog false:=mkL tab (qT n) [] Tryz.f85 [true,true,true,true,false,false,true,false,true,false,false,false] 2 n [.v (.t 1) T3,.v (.t 6) T3,.v (.t 7) T3,.v (.t 8) T3,.row (.t 0) true T3 3,.fnc (.t 2) 64 [.box true 53 10],.v (.c 1 0) T53] [(.exit 4,[.v (.t 1) T3,.v (.t 6) T3,.v (.t 7) T3,.row (.t 0) true T3 3,.fnc (.t 2) 64 [.box true 53 10],.v (.c 1 0) T53])] (by kernel_rfl)
def qfk(n:Nat):LK Tryz.prog false:=mkL tab (qT n) [qfj n] Tryz.f85 [true,true,true,true,false,false] 1 n [.v (.t 1) T3,.v (.t 6) T3,.row (.t 0) true T3 3,.fnc (.t 2) 64 [.box true 53 10],.v (.c 1 0) T53] [(.exit 2,[.row (.t 0) true T3 3,.fnc (.t 2) 64 [.box true 53 10],.v (.c 1 0) T53])] (by kernel_rfl)
def qcT(n:Nat):Cw Tryz.prog:=mkW tab (qT n) [qfi n,qfk n] Tryz.func85 [.v (.t 1) T3,.row (.t 0) true T3 3,.fnc (.t 2) 64 [.box true 53 10],.v (.c 1 0) T53] 3 [[.row (.t 0) true T3 3,.obj (.t 1) true 53 10,.v (.c 1 0) T53]] (by kernel_rfl)
def qe8(n:Nat):CL Tryz.prog:=⟨[],[qgY n,qcT n],0,nof⟩
def qcQ(n:Nat):Cw Tryz.prog:=mkW tab (qe8 n) [] Tryz.func63 [.row (.t 0) true T3 3,.fnc (.t 1) 64 [.box true 53 10],.v (.c 1 0) T53] 2 [[.row (.t 0) true T3 3,.obj (.t 1) true 53 10,.v (.c 1 0) T53]] (by kernel_rfl)
def qjI(n:Nat):CL Tryz.prog:=⟨[qio n,qqS n,qnR n],[qcQ n],0,nof⟩
def qnW(n:Nat):LK Tryz.prog false:=mkL tab (qjI n) [] Tryz.f46 [true,true,true,false,true,false,false] 0 n [.v (.t 21) T51,.v (.t 22) T3,.v (.t 23) T3,.obj (.t 1) false 53 10,.v (.c 0 0) T53,.obj (.t 5) false 109 11,.v (.c 1 0) T53,.row (.c 1 10) false T3 3,.obj (.t 6) false 85 4,.v (.c 3 0) T85] [(.exit 0,[.obj (.t 1) false 53 10,.v (.c 0 0) T53,.obj (.t 5) false 109 11,.v (.c 1 0) T53,.row (.c 1 10) false T3 3])] (by kernel_rfl)
def qkh(n:Nat):Cw Tryz.prog:=mkW tab (qjI n) [qnW n] Tryz.func46 [.v (.t 0) T53] 1 [[.v (.t 0) T92,.v (.t 1) T28],[.nilp (.t 0),.v (.t 1) T28]] (by kernel_rfl)
def qjY(n:Nat):CL Tryz.prog:=⟨[qfA n],[],0,nof⟩
def qdj(n:Nat):Cw Tryz.prog:=mkW tab (qjY n) [] Tryz.func88 [.v (.t 0) T3,.v (.t 1) T3,.obj (.t 2) true 23 1,.row (.c 0 0) true T3 3] 3 [[.v (.t 0) T3,.obj (.t 1) true 23 1,.row (.c 0 0) true T3 3]] (by kernel_rfl)
def qP(n:Nat):CL Tryz.prog:=⟨[],[qdj n],0,nof⟩
def qbP(n:Nat):LK Tryz.prog false:=mkL tab (qP n) [] Tryz.f110 [true,false,false,true,false,false,true,false,false] 1 n [.v (.t 1) T3,.v (.t 2) T3,.v (.t 8) T3,.v (.t 9) T3,.row (.t 0) true T3 3,.fnc (.t 3) 88 [.box true 23 1],.row (.c 1 0) true T3 3] [(.exit 2,[.v (.t 1) T3,.v (.t 2) T3,.v (.t 8) T3,.row (.t 0) true T3 3,.fnc (.t 3) 88 [.box true 23 1],.row (.c 1 0) true T3 3])] (by kernel_rfl)
def qbQ(n:Nat):LK Tryz.prog false:=mkL tab (qP n) [qbP n] Tryz.f110 [true,false,false] 0 n [.v (.t 1) T3,.v (.t 2) T3,.v (.t 8) T3,.row (.t 0) true T3 3,.fnc (.t 3) 88 [.box true 23 1],.row (.c 1 0) true T3 3] [(.exit 0,[.row (.t 0) true T3 3,.fnc (.t 3) 88 [.box true 23 1],.row (.c 1 0) true T3 3])] (by kernel_rfl)
def qbU(n:Nat):Cw Tryz.prog:=mkW tab (qP n) [qbQ n] Tryz.func110 [.v (.t 1) T3,.v (.t 2) T3,.row (.t 0) true T3 3,.fnc (.t 3) 88 [.box true 23 1],.row (.c 1 0) true T3 3] 4 [[.row (.t 0) true T3 3,.obj (.t 1) true 23 1,.row (.c 1 0) true T3 3]] (by kernel_rfl)
def qI(n:Nat):CL Tryz.prog:=⟨[],[qdj n,qcd n,qbU n],0,nof⟩
def qce(n:Nat):LK Tryz.prog false:=mkL tab (qI n) [] Tryz.f85 [true,true,false,false,false] 0 n [.v (.t 1) T3,.v (.t 6) T3,.v (.t 7) T3,.v (.t 8) T3,.row (.t 0) true T3 3,.fnc (.t 2) 88 [.box true 23 1],.row (.c 1 0) true T3 3] [(.exit 0,[.v (.t 1) T3,.v (.t 6) T3,.v (.t 7) T3,.row (.t 0) true T3 3,.fnc (.t 2) 88 [.box true 23 1],.row (.c 1 0) true T3 3])] (by kernel_rfl)
def qcf(n:Nat):LK Tryz.prog false:=mkL tab (qI n) [] Tryz.f85 [true,true,true,true,false,false,true,false,true,false,false,false] 2 n [.v (.t 1) T3,.v (.t 6) T3,.v (.t 7) T3,.v (.t 8) T3,.row (.t 0) true T3 3,.fnc (.t 2) 88 [.box true 23 1],.row (.c 1 0) true T3 3] [(.exit 4,[.v (.t 1) T3,.v (.t 6) T3,.v (.t 7) T3,.row (.t 0) true T3 3,.fnc (.t 2) 88 [.box true 23 1],.row (.c 1 0) true T3 3])] (by kernel_rfl)
def qcg(n:Nat):LK Tryz.prog false:=mkL tab (qI n) [qcf n] Tryz.f85 [true,true,true,true,false,false] 1 n [.v (.t 1) T3,.v (.t 6) T3,.row (.t 0) true T3 3,.fnc (.t 2) 88 [.box true 23 1],.row (.c 1 0) true T3 3] [(.exit 2,[.row (.t 0) true T3 3,.fnc (.t 2) 88 [.box true 23 1],.row (.c 1 0) true T3 3])] (by kernel_rfl)
def qcm(n:Nat):Cw Tryz.prog:=mkW tab (qI n) [qce n,qcg n] Tryz.func85 [.v (.t 1) T3,.row (.t 0) true T3 3,.fnc (.t 2) 88 [.box true 23 1],.row (.c 1 0) true T3 3] 3 [[.row (.t 0) true T3 3,.obj (.t 1) true 23 1,.row (.c 1 0) true T3 3]] (by kernel_rfl)
def qep(n:Nat):CL Tryz.prog:=⟨[],[qcT n,qcm n,qdj n],0,nof⟩
def qch(n:Nat):Cw Tryz.prog:=mkW tab (qep n) [] Tryz.func63 [.row (.t 0) true T3 3,.fnc (.t 1) 88 [.box true 23 1],.row (.c 1 0) true T3 3] 2 [[.row (.t 0) true T3 3,.obj (.t 1) true 23 1,.row (.c 1 0) true T3 3]] (by kernel_rfl)
def qd2(n:Nat):CL Tryz.prog:=⟨[],[qcQ n,qch n,qiq n],1,nof⟩
def qfZ(n:Nat):LK Tryz.prog false:=mkL tab (qd2 n) [] Tryz.f68 [true,true,true,false,true,false,false] 0 n [.v (.t 0) T92,.v (.t 21) T3,.v (.t 22) T3,.row (.t 1) true T3 3,.obj (.t 3) false 23 1,.al (.c 1 0) 0,.row (.t 6) false T3 3,.row (.t 7) false T3 3,.sub (.t 20) 0] [(.exit 0,[.v (.t 0) T92,.row (.t 1) true T3 3,.obj (.t 3) false 23 1,.al (.c 1 0) 0,.row (.t 6) false T3 3,.row (.t 7) false T3 3])] (by kernel_rfl)
def qf0(n:Nat):LK Tryz.prog false:=mkL tab (qd2 n) [] Tryz.f68 [true,true,true,true,true,false,true,false,false] 1 n [.v (.t 0) T92,.v (.t 37) T23,.v (.t 38) T3,.v (.t 39) T3,.row (.t 1) true T3 3,.obj (.t 3) false 23 1,.al (.c 1 0) 0,.row (.t 6) false T3 3] [(.exit 2,[.row (.t 1) true T3 3,.row (.t 6) false T3 3]),(.ret,[.v (.t 4) T23,.v (.t 5) T4,.row (.t 1) true T3 3])] (by kernel_rfl)
def q9(n:Nat):Cw Tryz.prog:=mkW tab (qd2 n) [qfZ n,qf0 n] Tryz.func68 [.v (.t 0) T92,.row (.t 1) true T3 3] 2 [[.v (.t 0) T23,.v (.t 1) T4,.row (.t 2) true T3 3]] (by kernel_rfl)
def qfl(n:Nat):CL Tryz.prog:=⟨[],[],0,fun _=>false⟩
def qhs(n:Nat):Nat→St→PT (DEx×St):=fun _ _=>.fail
theorem qlA(n:Nat):qbt (qfl n).c (qO Tryz.f47) 0=[]:=by kernel_rfl
theorem qlB:Tryz.f47.body=some (qO Tryz.f47):=by kernel_rfl
abbrev qfL:List Ar:=[.d T92]
abbrev qed:List Ty:=[T92]
def qhZ(n:Nat)(x:qdZ qfL):Option (qw qed):=(qea tab (qfl n) (qhs n) (qO Tryz.f47) 0 (qgh qfL 4 x)).run (qwm 2 66 qed)
def qlC(n:Nat):Ct Tryz.prog:=⟨47,qfL,.fb 66 qed,qhZ n,fun _ _ h=>qxa (B:=tab) (cs:=qfl n) (lo:=qhs n) (i:=2) (g:=66) (caps:=qed) Tryz.func47 (by kernel_rfl) qlB (by kernel_rfl) (qnP (qlA n) qj6) h⟩
end
set_option maxHeartbeats 4000000
abbrev OutT:=T92.den
def ptOf:Ty→Ty
 | .pt t=>t
 | t=>t
def tmGs(x:OutT):List (Int×(Int×Int)):=x.1.2.2.2.1
def tmCl(x:OutT):List Int:=x.1.2.2.2.2.1
def qki(n:Nat)(x:OutT)(g:Nat):Option (Bool×Unit):=(qcl n).M (x,((g:Int),()))
def qi4(n:Nat)(x:OutT)(c:List Int):Option (List Int×(Bool×(List Int×Unit))):=(q9 n).M (x,(c,()))
def tmLd(n:Nat)(x:OutT)(g:Nat):Bool:=((qki n x g).map fun y=>y.1).getD false
def tmRp(n:Nat)(x:OutT)(c:List Int):Option (List Int):=(qi4 n x c).bind fun y=>cond y.2.1 (some y.1) none
theorem qwP{n:Nat}{x:OutT}{g:Nat}{b:Bool}(h:qki n x g=some (b,())):tmLd n x g=b:=by unfold tmLd;rw[h];rfl
theorem qwQ{n:Nat}{x:OutT}{c o:List Int}{b:Bool}{u:List Int×Unit}(h:qi4 n x c=some (o,(b,u))):tmRp n x c=cond b (some o) none:=by unfold tmRp;rw[h];rfl
def tmO(n:Nat)(x:OutT):TmO where
 G:=(tmGs x).length
 clients:=tmCl x
 pts g:=(((tmGs x)[g]?).map fun z=>z.2.2).getD 0
 lead g:=tmLd n x g
 rop c:=tmRp n x c
structure TmOk (n:Nat) (x:OutT):Prop where
 gl:(tmGs x).length≤4
 cl:(tmCl x).length≤6
 cb:∀c,c∈tmCl x→1≤c∧c≤20
 gb:∀z,z∈tmGs x→z.2.2≤20
 ld:∀g:Nat,g<(tmGs x).length→∃b,qki n x g=some (b,())
 rd:∀l:List Int,l.length=(tmGs x).length→(∀c,c∈l→0≤c∧c≤6)→∃o b,qi4 n x l=some (o,(b,(l,())))∧(b=false→o=[])
theorem MC.imp{P:Program}{f:FuncId}{args:List AV}{H:List HE}{R R':AV→List HE→Prop}(h:MC P f args H R)(hR:∀r H',R r H'→R' r H'):MC P f args H R' :=
 ⟨h.1,fun w S N vs hT hs=>(h.2 w S N vs hT hs).mono fun _ _ ⟨u,r,H',h1,h2,h3⟩=>⟨u,r,H',h1,hR r H' h2,h3⟩⟩
theorem qvL(n:Nat)(x:OutT)(l:List Int)(rc:Nat)(o:List Int)(b:Bool)(hl:l.length≤4)(h:qi4 n x l=some (o,(b,(l,())))) :
  MC Tryz.prog 68 [T92.argA x,.val (.slice (some ⟨rc,0,none⟩) l.length l.length)] [.blk rc 3 (ints l)] fun r H'=>H'=[.blk rc 3 (ints l)]∧r = .tup [slA intC 1 o,.val (.bool b)]:=by
 have h0:=(q9 n).ok (x,(l,())) (o,(b,(l,()))) h (fun _=>.slice (some ⟨rc,0,none⟩) l.length l.length) (fun _ _=>.inl ⟨_,_,_,rfl⟩)
 have hi:ints l=(l.map (T3.enc)).flatten:=by
  clear h h0 hl
  induction l with
  | nil=>rfl
  | cons a l ih =>
   show AV.int a::ints l=AV.int a::(List.map T3.enc l).flatten
   rw[ih]
 rw[hi]
 have e:qa (gOf (fun _=>.slice (some ⟨rc,0,none⟩) l.length l.length) (mkS (q9 n).ins (q9 n).p (x,(l,()))).H) (mkS (q9 n).ins (q9 n).p (x,(l,()))).T=[T92.argA x,.val (.slice (some ⟨rc,0,none⟩) l.length l.length)]:=by
  exact congrArg (fun z=>[AV.rp z,AV.val (.slice (some ⟨rc,0,none⟩) l.length l.length)]) (qcc (ptOf T92) x)
 rw[e] at h0
 refine (MC.blkOwn (by rw[← hi,qkg,Nat.mul_one]) (Nat.le_trans hl (by decide)) (MC.imp (H:=[HE.own (.slice (some ⟨rc,0,none⟩) l.length l.length) 3 1 l.length ((l.map (T3.enc)).flatten)]) (R':=fun r H'=>H'=[HE.own (.slice (some ⟨rc,0,none⟩) l.length l.length) 3 1 l.length ((l.map (T3.enc)).flatten)]∧r = .tup [slA intC 1 o,.val (.bool b)]) h0 fun r H' hr=>?_) fun r H' hr=>hr.1).imp fun r H' hr=>⟨hr.1,hr.2.2⟩
 obtain ⟨m1,hs,hm,hv,hH⟩:=hr
 have hm0:m1 0 = .slice (some ⟨rc,0,none⟩) l.length l.length:=hm 0 (by show 0<1;omega)
 refine ⟨?_,?_⟩
 ·rw[hH]
  show [HE.own (m1 0) _ _ _ _]=_
  rw[hm0]
  rfl
 ·rw[hv]
  rfl
theorem qvM(n:Nat)(x:OutT)(g:Nat)(b:Bool)(h:qki n x g=some (b,())):PC Tryz.prog 69 [T92.argA x,.val (.int .i64 (g:Int))] (.val (.bool b)):=by
 have:=(qcl n).ok (x,((g:Int),())) (b,()) h
 have e:(qcl n).f=69:=rfl
 have e2:arsA (qcl n).ars (x,((g:Int),()))=[T92.argA x,.val (.int .i64 (g:Int))]:=rfl
 have e3:(qcl n).rs.A (b,()) = .val (.bool b):=rfl
 rw[e,e2,e3] at this
 exact this
attribute [irreducible] qki qi4 tmLd tmRp
theorem qvN(n:Nat)(one:Bool)(x:OutT)(h:TmOk n x):qlT Tryz.prog one 66 [] (qd0 [T92] (x,())) ((qgX (tmO n x)).map (qrS one)):=by
 have hld:=fun g hg=>h.ld g hg
 have hrd:=fun l h1 h2=>h.rd l h1 h2
 have h1:∀g:Nat,g<(tmO n x).G→PC Tryz.prog 69 [T92.argA x,.int (g:Int)] (.bool ((tmO n x).lead g)):=fun g hg=>by
  obtain ⟨b,hb⟩:=h.ld g hg
  show PC Tryz.prog 69 [T92.argA x,.int (g:Int)] (.bool (tmLd n x g))
  rw[qwP hb]
  exact qvM n x g b hb
 have h2:∀(l:List Int) (rc:Nat),l.length=(tmO n x).G→(∀x∈l,0≤x∧x≤6)→MC Tryz.prog 68 [T92.argA x,.val (.slice (some ⟨rc,0,none⟩) l.length l.length)] [.blk rc 3 (ints l)] fun r H'=>H'=[.blk rc 3 (ints l)]∧qnj ((tmO n x).rop l) r:=fun l rc hl hc=>by
  obtain ⟨o,b,hb,ho⟩:=h.rd l hl hc
  refine (qvL n x l rc o b (by rw[hl];exact h.gl) hb).imp fun r H' hr=>⟨hr.1,?_⟩
  show qnj (tmRp n x l) r
  rw[qwQ hb,hr.2]
  cases b with
  | true=>rfl
  | false=>rw[ho rfl];rfl
 have h3:∀k:Nat,k<(tmCl x).length→1≤cntN (tmCl x) k∧cntN (tmCl x) k≤20:=fun k hk=>by rw[qi3 _ _ hk];exact h.cb _ (List.getElem_mem hk)
 have h4:∀g:Nat,(tmO n x).pts g≤20:=fun g=>by
  show (((tmGs x)[g]?).map fun z=>z.2.2).getD 0≤20
  cases hx:(tmGs x)[g]? with
  | none=>simp
  | some z=>exact h.gb z (List.mem_of_getElem? hx)
 have h5:∀g:Nat,g<(tmO n x).G→∃a b,((tmGs x).map fun z=>[AV.val (.int .i64 z.1),.val (.int .i64 z.2.1),.val (.int .i64 z.2.2)])[g]?=some [a,b,.int ((tmO n x).pts g)]:=fun g hg=>by
  have hg':g<(tmGs x).length:=hg
  rw[List.getElem?_map,List.getElem?_eq_getElem hg']
  refine ⟨.val (.int .i64 (tmGs x)[g].1),.val (.int .i64 (tmGs x)[g].2.1),?_⟩
  rw[show (tmO n x).pts g=(tmGs x)[g].2.2 by show (((tmGs x)[g]?).map fun z=>z.2.2).getD 0=_;rw[List.getElem?_eq_getElem hg'];rfl]
  rfl
 have h6:∀k:Nat,k<(tmCl x).length→((tmCl x).map fun c=>[AV.val (.int .i64 c)])[k]?=some [.int (cntN (tmCl x) k)]:=fun k hk=>by
  rw[List.getElem?_map,List.getElem?_eq_getElem hk,qi3 _ _ hk];rfl
 have h7:((tmGs x).map fun z=>[AV.val (.int .i64 z.1),.val (.int .i64 z.2.1),.val (.int .i64 z.2.2)]).length=(tmO n x).G:=by rw[List.length_map];rfl
 have h8:((tmCl x).map fun c=>[AV.val (.int .i64 c)]).length=(tmCl x).length:=by rw[List.length_map]
 exact qvK (tmO n x) one _ _ _ _ _ _ _ _ _ _ _ h.gl h.cl h3 h4 h7 h5 h8 h6 h1 h2
open Classical in
def qlD(n:Nat)(x:OutT):Option (List (List Nat×List Int)):=if TmOk n x then some (qgX (tmO n x)) else none
theorem quB{n:Nat}{x:OutT}(h:TmOk n x):qlD n x=some (qgX (tmO n x)):=if_pos h
theorem quC{n:Nat}{x:OutT}{l:List (List Nat×List Int)}(h:qlD n x=some l):TmOk n x∧l=qgX (tmO n x):=by
 unfold qlD at h
 split at h
 ·next hk=>injection h with h;exact ⟨hk,h.symm⟩
 ·cases h
def qnl(n:Nat)(x:T92.den):Option (List (qw [T23])):=(qlD n x).map fun l=>l.map fun e=>(e.2,())
def qwR(n:Nat):Itr Tryz.prog:=⟨66,[T92],[T23],false,1,fun x=>qnl n x.1,fun x l h=>by
 unfold qnl at h
 obtain ⟨x,u⟩:=x
 cases ht:qlD n x with
 | none=>simp only[ht] at h;cases h
 | some m =>
  simp only[ht] at h
  injection h with h
  obtain ⟨h1,rfl⟩:=quC ht
  subst h
  show qlT Tryz.prog false 66 [] (qd0 [T92] (x,())) (List.map (fun y:List Int×Unit=>List.replicate 1 AV.any++tysA [T23] y) (List.map (fun e:List Nat×List Int=>(e.2,())) (qgX (tmO n x))))
  rw[List.map_map]
  exact qvN n false x h1⟩
section
def qir(n:Nat):CL Tryz.prog:=⟨[qlC n],[qkh n],0,nof⟩
def qpv(n:Nat):LK Tryz.prog true:=mkL tab (qir n) [] Tryz.f23 [true,true,true,true,false,true,false,true,false,true,false,true,false,false] 1 n [.v (.t 9) T3,.v (.t 24) T23,.v (.t 25) T3,.v (.t 26) T3,.obj (.t 6) true 3 1,.v (.c 0 0) T3] [(.exit 2,[.v (.t 9) T3,.obj (.t 6) true 3 1,.v (.c 0 0) T3])] (by kernel_rfl)
def qkZ(n:Nat):LK Tryz.prog false:=mkG tab (qir n) [qpv n] Tryz.f23 [true,true,true,true,false,true,false] 0 21 [22,23] (qwR n) [.obj (.t 6) false 3 1,.v (.c 0 0) T3] [] (by kernel_rfl)
def qlE(n:Nat):Ct Tryz.prog:=mkC tab (qir n) [qkZ n] Tryz.func23 [.d T53] [T3,T28] (by kernel_rfl)
end
end
end Go.Proofs.YtbdockhccdkdiaaGreat
