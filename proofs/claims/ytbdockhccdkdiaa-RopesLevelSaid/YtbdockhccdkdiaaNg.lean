/- Texts DnW, DnX, DnY in one. -/
import Derived.Test.YtbdockhccdkdiaaNf
import Derived.Test.YtbdockhccdkdiaaTg
/- Printed: what functions of the program compute. -/
set_option linter.constructorNameAsVariable false
set_option linter.unusedSimpArgs false
set_option linter.unusedVariables false
set_option linter.unusedSectionVars false
namespace Go.Proofs.Ytbdockhccdkdiaa
open Go Go.Proofs Go.RowKit
set_option maxRecDepth 20000
noncomputable section
section
def qi5(n:Nat):CL Try.prog:=⟨[],[],0,nof⟩
def qb9(n:Nat):Ct Try.prog:=mkC tab (qi5 n) [] Try.func78 [.d T86,.d T3] [T4] (by kernel_rfl)
def qkX(n:Nat):CL Try.prog:=⟨[],[],0,nof⟩
def qlx(n:Nat):Ct Try.prog:=mkC tab (qkX n) [] Try.func105 [.d T138,.d T138] [T138,T138] (by kernel_rfl)
def qma(n:Nat):CL Try.prog:=⟨[qlx n],[],0,nof⟩
def qmN(n:Nat):Ct Try.prog:=mkC tab (qma n) [] Try.func102 [.d T37,.d T37] [T37,T37] (by kernel_rfl)
def qgv(n:Nat):CL Try.prog:=⟨[qmN n],[],0,nof⟩
def qjv(n:Nat):LK Try.prog false:=mkL tab (qgv n) [] Try.f94 [true,true,true,true,true,true,false,false,false] 0 n [.v (.t 8) T3,.row (.t 7) false T3 3] [(.exit 0,[.row (.t 7) false T3 3])] (by kernel_rfl)
def qgP(n:Nat):Cw Try.prog:=mkW tab (qgv n) [qjv n] Try.func94 [.v (.t 0) T23,.v (.t 1) T3] 2 [[.row (.t 0) false T3 3]] (by kernel_rfl)
def qkr(n:Nat):CL Try.prog:=⟨[qez n],[],0,nof⟩
def qfJ(n:Nat):Cw Try.prog:=mkW tab (qkr n) [] Try.func73 [.v (.t 0) T3,.v (.t 1) T3,.obj (.t 2) true 47 10,.v (.c 0 0) T47] 3 [[.v (.t 0) T3,.obj (.t 1) true 47 10,.v (.c 0 0) T47]] (by kernel_rfl)
def qZ(n:Nat):CL Try.prog:=⟨[],[qfJ n],0,nof⟩
def qdL(n:Nat):LK Try.prog false:=mkL tab (qZ n) [] Try.f100 [true,false,false,true,false,false,true,false,false] 1 n [.v (.t 1) T3,.v (.t 2) T3,.v (.t 8) T3,.v (.t 9) T3,.row (.t 0) true T3 3,.fnc (.t 3) 73 [.box true 47 10],.v (.c 1 0) T47] [(.exit 2,[.v (.t 1) T3,.v (.t 2) T3,.v (.t 8) T3,.row (.t 0) true T3 3,.fnc (.t 3) 73 [.box true 47 10],.v (.c 1 0) T47])] (by kernel_rfl)
def qdM(n:Nat):LK Try.prog false:=mkL tab (qZ n) [qdL n] Try.f100 [true,false,false] 0 n [.v (.t 1) T3,.v (.t 2) T3,.v (.t 8) T3,.row (.t 0) true T3 3,.fnc (.t 3) 73 [.box true 47 10],.v (.c 1 0) T47] [(.exit 0,[.row (.t 0) true T3 3,.fnc (.t 3) 73 [.box true 47 10],.v (.c 1 0) T47])] (by kernel_rfl)
def qb1(n:Nat):Cw Try.prog:=mkW tab (qZ n) [qdM n] Try.func100 [.v (.t 1) T3,.v (.t 2) T3,.row (.t 0) true T3 3,.fnc (.t 3) 73 [.box true 47 10],.v (.c 1 0) T47] 4 [[.row (.t 0) true T3 3,.obj (.t 1) true 47 10,.v (.c 1 0) T47]] (by kernel_rfl)
def qQ(n:Nat):CL Try.prog:=⟨[],[qfJ n,qb1 n],0,nof⟩
def qep(n:Nat):LK Try.prog false:=mkL tab (qQ n) [] Try.f92 [true,true,false,false,false] 0 n [.v (.t 1) T3,.v (.t 6) T3,.v (.t 7) T3,.v (.t 8) T3,.row (.t 0) true T3 3,.fnc (.t 2) 73 [.box true 47 10],.v (.c 1 0) T47] [(.exit 0,[.v (.t 1) T3,.v (.t 6) T3,.v (.t 7) T3,.row (.t 0) true T3 3,.fnc (.t 2) 73 [.box true 47 10],.v (.c 1 0) T47])] (by kernel_rfl)
def qeq(n:Nat):LK Try.prog false:=mkL tab (qQ n) [] Try.f92 [true,true,true,true,false,false,true,false,true,false,false,false] 2 n [.v (.t 1) T3,.v (.t 6) T3,.v (.t 7) T3,.v (.t 8) T3,.row (.t 0) true T3 3,.fnc (.t 2) 73 [.box true 47 10],.v (.c 1 0) T47] [(.exit 4,[.v (.t 1) T3,.v (.t 6) T3,.v (.t 7) T3,.row (.t 0) true T3 3,.fnc (.t 2) 73 [.box true 47 10],.v (.c 1 0) T47])] (by kernel_rfl)
def qer(n:Nat):LK Try.prog false:=mkL tab (qQ n) [qeq n] Try.f92 [true,true,true,true,false,false] 1 n [.v (.t 1) T3,.v (.t 6) T3,.row (.t 0) true T3 3,.fnc (.t 2) 73 [.box true 47 10],.v (.c 1 0) T47] [(.exit 2,[.row (.t 0) true T3 3,.fnc (.t 2) 73 [.box true 47 10],.v (.c 1 0) T47])] (by kernel_rfl)
def qcB(n:Nat):Cw Try.prog:=mkW tab (qQ n) [qep n,qer n] Try.func92 [.v (.t 1) T3,.row (.t 0) true T3 3,.fnc (.t 2) 73 [.box true 47 10],.v (.c 1 0) T47] 3 [[.row (.t 0) true T3 3,.obj (.t 1) true 47 10,.v (.c 1 0) T47]] (by kernel_rfl)
def qeg(n:Nat):CL Try.prog:=⟨[],[qfJ n,qcB n],0,nof⟩
def qcx(n:Nat):Cw Try.prog:=mkW tab (qeg n) [] Try.func72 [.row (.t 0) true T3 3,.fnc (.t 1) 73 [.box true 47 10],.v (.c 1 0) T47] 2 [[.row (.t 0) true T3 3,.obj (.t 1) true 47 10,.v (.c 1 0) T47]] (by kernel_rfl)
def qhP(n:Nat):CL Try.prog:=⟨[qnX n,qgN n,qlt n],[qcx n],0,nof⟩
def qly(n:Nat):LK Try.prog false:=mkL tab (qhP n) [] Try.f47 [true,true,true,false,true,false,false] 0 n [.v (.t 21) T45,.v (.t 22) T3,.v (.t 23) T3,.obj (.t 1) false 47 10,.v (.c 0 0) T47,.obj (.t 5) false 116 11,.v (.c 1 0) T47,.row (.c 1 10) false T3 3,.obj (.t 6) false 99 4,.v (.c 3 0) T99] [(.exit 0,[.obj (.t 1) false 47 10,.v (.c 0 0) T47,.obj (.t 5) false 116 11,.v (.c 1 0) T47,.row (.c 1 10) false T3 3])] (by kernel_rfl)
def qiq(n:Nat):Cw Try.prog:=mkW tab (qhP n) [qly n] Try.func47 [.v (.t 0) T47] 1 [[.v (.t 0) T86,.v (.t 1) T26],[.nilp (.t 0),.v (.t 1) T26]] (by kernel_rfl)
def qh3(n:Nat):CL Try.prog:=⟨[qez n],[],0,nof⟩
def qc1(n:Nat):Cw Try.prog:=mkW tab (qh3 n) [] Try.func95 [.v (.t 0) T3,.v (.t 1) T3,.obj (.t 2) true 23 1,.row (.c 0 0) true T3 3] 3 [[.v (.t 0) T3,.obj (.t 1) true 23 1,.row (.c 0 0) true T3 3]] (by kernel_rfl)
def qM(n:Nat):CL Try.prog:=⟨[],[qc1 n],0,nof⟩
def qbF(n:Nat):LK Try.prog false:=mkL tab (qM n) [] Try.f100 [true,false,false,true,false,false,true,false,false] 1 n [.v (.t 1) T3,.v (.t 2) T3,.v (.t 8) T3,.v (.t 9) T3,.row (.t 0) true T3 3,.fnc (.t 3) 95 [.box true 23 1],.row (.c 1 0) true T3 3] [(.exit 2,[.v (.t 1) T3,.v (.t 2) T3,.v (.t 8) T3,.row (.t 0) true T3 3,.fnc (.t 3) 95 [.box true 23 1],.row (.c 1 0) true T3 3])] (by kernel_rfl)
def qbG(n:Nat):LK Try.prog false:=mkL tab (qM n) [qbF n] Try.f100 [true,false,false] 0 n [.v (.t 1) T3,.v (.t 2) T3,.v (.t 8) T3,.row (.t 0) true T3 3,.fnc (.t 3) 95 [.box true 23 1],.row (.c 1 0) true T3 3] [(.exit 0,[.row (.t 0) true T3 3,.fnc (.t 3) 95 [.box true 23 1],.row (.c 1 0) true T3 3])] (by kernel_rfl)
def qbL(n:Nat):Cw Try.prog:=mkW tab (qM n) [qbG n] Try.func100 [.v (.t 1) T3,.v (.t 2) T3,.row (.t 0) true T3 3,.fnc (.t 3) 95 [.box true 23 1],.row (.c 1 0) true T3 3] 4 [[.row (.t 0) true T3 3,.obj (.t 1) true 23 1,.row (.c 1 0) true T3 3]] (by kernel_rfl)
def qE(n:Nat):CL Try.prog:=⟨[],[qc1 n,qb1 n,qbL n],0,nof⟩
def qb2(n:Nat):LK Try.prog false:=mkL tab (qE n) [] Try.f92 [true,true,false,false,false] 0 n [.v (.t 1) T3,.v (.t 6) T3,.v (.t 7) T3,.v (.t 8) T3,.row (.t 0) true T3 3,.fnc (.t 2) 95 [.box true 23 1],.row (.c 1 0) true T3 3] [(.exit 0,[.v (.t 1) T3,.v (.t 6) T3,.v (.t 7) T3,.row (.t 0) true T3 3,.fnc (.t 2) 95 [.box true 23 1],.row (.c 1 0) true T3 3])] (by kernel_rfl)
def qb3(n:Nat):LK Try.prog false:=mkL tab (qE n) [] Try.f92 [true,true,true,true,false,false,true,false,true,false,false,false] 2 n [.v (.t 1) T3,.v (.t 6) T3,.v (.t 7) T3,.v (.t 8) T3,.row (.t 0) true T3 3,.fnc (.t 2) 95 [.box true 23 1],.row (.c 1 0) true T3 3] [(.exit 4,[.v (.t 1) T3,.v (.t 6) T3,.v (.t 7) T3,.row (.t 0) true T3 3,.fnc (.t 2) 95 [.box true 23 1],.row (.c 1 0) true T3 3])] (by kernel_rfl)
def qb4(n:Nat):LK Try.prog false:=mkL tab (qE n) [qb3 n] Try.f92 [true,true,true,true,false,false] 1 n [.v (.t 1) T3,.v (.t 6) T3,.row (.t 0) true T3 3,.fnc (.t 2) 95 [.box true 23 1],.row (.c 1 0) true T3 3] [(.exit 2,[.row (.t 0) true T3 3,.fnc (.t 2) 95 [.box true 23 1],.row (.c 1 0) true T3 3])] (by kernel_rfl)
def qca(n:Nat):Cw Try.prog:=mkW tab (qE n) [qb2 n,qb4 n] Try.func92 [.v (.t 1) T3,.row (.t 0) true T3 3,.fnc (.t 2) 95 [.box true 23 1],.row (.c 1 0) true T3 3] 3 [[.row (.t 0) true T3 3,.obj (.t 1) true 23 1,.row (.c 1 0) true T3 3]] (by kernel_rfl)
def qdN(n:Nat):CL Try.prog:=⟨[],[qcB n,qca n,qc1 n],0,nof⟩
def qb5(n:Nat):Cw Try.prog:=mkW tab (qdN n) [] Try.func72 [.row (.t 0) true T3 3,.fnc (.t 1) 95 [.box true 23 1],.row (.c 1 0) true T3 3] 2 [[.row (.t 0) true T3 3,.obj (.t 1) true 23 1,.row (.c 1 0) true T3 3]] (by kernel_rfl)
def qdu(n:Nat):CL Try.prog:=⟨[],[qcx n,qb5 n,qgP n],1,nof⟩
def qeS(n:Nat):LK Try.prog false:=mkL tab (qdu n) [] Try.f77 [true,true,true,false,true,false,false] 0 n [.v (.t 0) T86,.v (.t 21) T3,.v (.t 22) T3,.row (.t 1) true T3 3,.obj (.t 3) false 23 1,.al (.c 1 0) 0,.row (.t 6) false T3 3,.row (.t 7) false T3 3,.sub (.t 20) 0] [(.exit 0,[.v (.t 0) T86,.row (.t 1) true T3 3,.obj (.t 3) false 23 1,.al (.c 1 0) 0,.row (.t 6) false T3 3,.row (.t 7) false T3 3])] (by kernel_rfl)
def qeT(n:Nat):LK Try.prog false:=mkL tab (qdu n) [] Try.f77 [true,true,true,true,true,false,true,false,false] 1 n [.v (.t 0) T86,.v (.t 37) T23,.v (.t 38) T3,.v (.t 39) T3,.row (.t 1) true T3 3,.obj (.t 3) false 23 1,.al (.c 1 0) 0,.row (.t 6) false T3 3] [(.exit 2,[.row (.t 1) true T3 3,.row (.t 6) false T3 3]),(.ret,[.v (.t 4) T23,.v (.t 5) T4,.row (.t 1) true T3 3])] (by kernel_rfl)
def qW(n:Nat):Cw Try.prog:=mkW tab (qdu n) [qeS n,qeT n] Try.func77 [.v (.t 0) T86,.row (.t 1) true T3 3] 2 [[.v (.t 0) T23,.v (.t 1) T4,.row (.t 2) true T3 3]] (by kernel_rfl)
def qes(n:Nat):CL Try.prog:=⟨[],[],0,fun _=>false⟩
def qgb(n:Nat):Nat→St→PT (DEx×St):=fun _ _=>.fail
theorem qjw(n:Nat):qbS (qes n).c (qb0 Try.f48) 0=[]:=by kernel_rfl
theorem qjx:Try.f48.body=some (qb0 Try.f48):=by kernel_rfl
abbrev qeL:List Ar:=[.d T86]
abbrev qdE:List Ty:=[T86]
def qgw(n:Nat)(x:qdq qeL):Option (qx qdE):=(qdR tab (qes n) (qgb n) (qb0 Try.f48) 0 (qe5 qeL 4 x)).run (qtl 2 75 qdE)
def qjy(n:Nat):Ct Try.prog:=⟨48,qeL,.fb 75 qdE,qgw n,fun _ _ h=>qt6 (B:=tab) (cs:=qes n) (lo:=qgb n) (i:=2) (g:=75) (caps:=qdE) Try.func48 (by kernel_rfl) qjx (by kernel_rfl) (qtj (qjw n) qpR) h⟩
end
set_option maxHeartbeats 4000000
abbrev OutT:=T86.den
def ptOf:Ty→Ty
 | .pt t=>t
 | t=>t
def tmGs(x:OutT):List (Int×(Int×Int)):=x.1.2.2.2.1
def tmCl(x:OutT):List Int:=x.1.2.2.2.2.1
def qir(n:Nat)(x:OutT)(g:Nat):Option (Bool×Unit):=(qb9 n).M (x,((g:Int),()))
def qhi(n:Nat)(x:OutT)(c:List Int):Option (List Int×(Bool×(List Int×Unit))):=(qW n).M (x,(c,()))
def tmLd(n:Nat)(x:OutT)(g:Nat):Bool:=((qir n x g).map fun y=>y.1).getD false
def tmRp(n:Nat)(x:OutT)(c:List Int):Option (List Int):=(qhi n x c).bind fun y=>cond y.2.1 (some y.1) none
theorem qtK{n:Nat}{x:OutT}{g:Nat}{b:Bool}(h:qir n x g=some (b,())):tmLd n x g=b:=by unfold tmLd;rw[h];rfl
theorem qtL{n:Nat}{x:OutT}{c o:List Int}{b:Bool}{u:List Int×Unit}(h:qhi n x c=some (o,(b,u))):tmRp n x c=cond b (some o) none:=by unfold tmRp;rw[h];rfl
def tmO(n:Nat)(x:OutT):TmO where
 G:=(tmGs x).length
 clients:=tmCl x
 pts g:=(((tmGs x)[g]?).map fun z=>z.2.2).getD 0
 lead g:=tmLd n x g
 rop c:=tmRp n x c
structure TmOk (n:Nat) (x:OutT):Prop where
 gl:(tmGs x).length≤4
 cl:(tmCl x).length≤6
 cb:∀c,c∈tmCl x→1≤c∧c≤20
 gb:∀z,z∈tmGs x→z.2.2≤20
 ld:∀g:Nat,g<(tmGs x).length→∃b,qir n x g=some (b,())
 rd:∀l:List Int,l.length=(tmGs x).length→(∀c,c∈l→0≤c∧c≤6)→∃o b,qhi n x l=some (o,(b,(l,())))∧(b=false→o=[])
theorem MC.imp{P:Program}{f:FuncId}{args:List AV}{H:List HE}{R R':AV→List HE→Prop}(h:MC P f args H R)(hR:∀r H',R r H'→R' r H'):MC P f args H R' :=
 ⟨h.1,fun w S N vs hT hs=>(h.2 w S N vs hT hs).mono fun _ _ ⟨u,r,H',h1,h2,h3⟩=>⟨u,r,H',h1,hR r H' h2,h3⟩⟩
theorem qsK(n:Nat)(x:OutT)(l:List Int)(rc:Nat)(o:List Int)(b:Bool)(hl:l.length≤4)(h:qhi n x l=some (o,(b,(l,())))) :
  MC Try.prog 77 [T86.argA x,.val (.slice (some ⟨rc,0,none⟩) l.length l.length)] [.blk rc 3 (ints l)] fun r H'=>H'=[.blk rc 3 (ints l)]∧r = .tup [slA intC 1 o,.val (.bool b)]:=by
 have h0:=(qW n).ok (x,(l,())) (o,(b,(l,()))) h (fun _=>.slice (some ⟨rc,0,none⟩) l.length l.length) (fun _ _=>.inl ⟨_,_,_,rfl⟩)
 have hi:ints l=(l.map (T3.enc)).flatten:=by
  clear h h0 hl
  induction l with
  | nil=>rfl
  | cons a l ih =>
   show AV.int a::ints l=AV.int a::(List.map T3.enc l).flatten
   rw[ih]
 rw[hi]
 have e:qa (gOf (fun _=>.slice (some ⟨rc,0,none⟩) l.length l.length) (mkS (qW n).ins (qW n).p (x,(l,()))).H) (mkS (qW n).ins (qW n).p (x,(l,()))).T=[T86.argA x,.val (.slice (some ⟨rc,0,none⟩) l.length l.length)]:=by
  exact congrArg (fun z=>[AV.rp z,AV.val (.slice (some ⟨rc,0,none⟩) l.length l.length)]) (qbZ (ptOf T86) x)
 rw[e] at h0
 refine (MC.blkOwn (by rw[← hi,qip,Nat.mul_one]) (Nat.le_trans hl (by decide)) (MC.imp (H:=[HE.own (.slice (some ⟨rc,0,none⟩) l.length l.length) 3 1 l.length ((l.map (T3.enc)).flatten)]) (R':=fun r H'=>H'=[HE.own (.slice (some ⟨rc,0,none⟩) l.length l.length) 3 1 l.length ((l.map (T3.enc)).flatten)]∧r = .tup [slA intC 1 o,.val (.bool b)]) h0 fun r H' hr=>?_) fun r H' hr=>hr.1).imp fun r H' hr=>⟨hr.1,hr.2.2⟩
 obtain ⟨m1,hs,hm,hv,hH⟩:=hr
 have hm0:m1 0 = .slice (some ⟨rc,0,none⟩) l.length l.length:=hm 0 (by show 0<1;omega)
 refine ⟨?_,?_⟩
 ·rw[hH]
  show [HE.own (m1 0) _ _ _ _]=_
  rw[hm0]
  rfl
 ·rw[hv]
  rfl
theorem qsL(n:Nat)(x:OutT)(g:Nat)(b:Bool)(h:qir n x g=some (b,())):PC Try.prog 78 [T86.argA x,.val (.int .i64 (g:Int))] (.val (.bool b)):=by
 have:=(qb9 n).ok (x,((g:Int),())) (b,()) h
 have e:(qb9 n).f=78:=rfl
 have e2:arsA (qb9 n).ars (x,((g:Int),()))=[T86.argA x,.val (.int .i64 (g:Int))]:=rfl
 have e3:(qb9 n).rs.A (b,()) = .val (.bool b):=rfl
 rw[e,e2,e3] at this
 exact this
attribute [irreducible] qir qhi tmLd tmRp
theorem qsM(n:Nat)(one:Bool)(x:OutT)(h:TmOk n x):qjJ Try.prog one 75 [] (qdr [T86] (x,())) ((qfI (tmO n x)).map (qoZ one)):=by
 have hld:=fun g hg=>h.ld g hg
 have hrd:=fun l h1 h2=>h.rd l h1 h2
 have h1:∀g:Nat,g<(tmO n x).G→PC Try.prog 78 [T86.argA x,.int (g:Int)] (.bool ((tmO n x).lead g)):=fun g hg=>by
  obtain ⟨b,hb⟩:=h.ld g hg
  show PC Try.prog 78 [T86.argA x,.int (g:Int)] (.bool (tmLd n x g))
  rw[qtK hb]
  exact qsL n x g b hb
 have h2:∀(l:List Int) (rc:Nat),l.length=(tmO n x).G→(∀x∈l,0≤x∧x≤6)→MC Try.prog 77 [T86.argA x,.val (.slice (some ⟨rc,0,none⟩) l.length l.length)] [.blk rc 3 (ints l)] fun r H'=>H'=[.blk rc 3 (ints l)]∧qkW ((tmO n x).rop l) r:=fun l rc hl hc=>by
  obtain ⟨o,b,hb,ho⟩:=h.rd l hl hc
  refine (qsK n x l rc o b (by rw[hl];exact h.gl) hb).imp fun r H' hr=>⟨hr.1,?_⟩
  show qkW (tmRp n x l) r
  rw[qtL hb,hr.2]
  cases b with
  | true=>rfl
  | false=>rw[ho rfl];rfl
 have h3:∀k:Nat,k<(tmCl x).length→1≤cntN (tmCl x) k∧cntN (tmCl x) k≤20:=fun k hk=>by rw[qhh _ _ hk];exact h.cb _ (List.getElem_mem hk)
 have h4:∀g:Nat,(tmO n x).pts g≤20:=fun g=>by
  show (((tmGs x)[g]?).map fun z=>z.2.2).getD 0≤20
  cases hx:(tmGs x)[g]? with
  | none=>simp
  | some z=>exact h.gb z (List.mem_of_getElem? hx)
 have h5:∀g:Nat,g<(tmO n x).G→∃a b,((tmGs x).map fun z=>[AV.val (.int .i64 z.1),.val (.int .i64 z.2.1),.val (.int .i64 z.2.2)])[g]?=some [a,b,.int ((tmO n x).pts g)]:=fun g hg=>by
  have hg':g<(tmGs x).length:=hg
  rw[List.getElem?_map,List.getElem?_eq_getElem hg']
  refine ⟨.val (.int .i64 (tmGs x)[g].1),.val (.int .i64 (tmGs x)[g].2.1),?_⟩
  rw[show (tmO n x).pts g=(tmGs x)[g].2.2 by show (((tmGs x)[g]?).map fun z=>z.2.2).getD 0=_;rw[List.getElem?_eq_getElem hg'];rfl]
  rfl
 have h6:∀k:Nat,k<(tmCl x).length→((tmCl x).map fun c=>[AV.val (.int .i64 c)])[k]?=some [.int (cntN (tmCl x) k)]:=fun k hk=>by
  rw[List.getElem?_map,List.getElem?_eq_getElem hk,qhh _ _ hk];rfl
 have h7:((tmGs x).map fun z=>[AV.val (.int .i64 z.1),.val (.int .i64 z.2.1),.val (.int .i64 z.2.2)]).length=(tmO n x).G:=by rw[List.length_map];rfl
 have h8:((tmCl x).map fun c=>[AV.val (.int .i64 c)]).length=(tmCl x).length:=by rw[List.length_map]
 exact qsJ (tmO n x) one _ _ _ _ _ _ _ _ _ _ _ h.gl h.cl h3 h4 h7 h5 h8 h6 h1 h2
open Classical in
def qjz(n:Nat)(x:OutT):Option (List (List Nat×List Int)):=if TmOk n x then some (qfI (tmO n x)) else none
theorem qrx{n:Nat}{x:OutT}(h:TmOk n x):qjz n x=some (qfI (tmO n x)):=if_pos h
theorem qry{n:Nat}{x:OutT}{l:List (List Nat×List Int)}(h:qjz n x=some l):TmOk n x∧l=qfI (tmO n x):=by
 unfold qjz at h
 split at h
 ·next hk=>injection h with h;exact ⟨hk,h.symm⟩
 ·cases h
def qkY(n:Nat)(x:T86.den):Option (List (qx [T23])):=(qjz n x).map fun l=>l.map fun e=>(e.2,())
def qtM(n:Nat):Itr Try.prog:=⟨75,[T86],[T23],false,1,fun x=>qkY n x.1,fun x l h=>by
 unfold qkY at h
 obtain ⟨x,u⟩:=x
 cases ht:qjz n x with
 | none=>simp only[ht] at h;cases h
 | some m =>
  simp only[ht] at h
  injection h with h
  obtain ⟨h1,rfl⟩:=qry ht
  subst h
  show qjJ Try.prog false 75 [] (qdr [T86] (x,())) (List.map (fun y:List Int×Unit=>List.replicate 1 AV.any++tysA [T23] y) (List.map (fun e:List Nat×List Int=>(e.2,())) (qfI (tmO n x))))
  rw[List.map_map]
  exact qsM n false x h1⟩
section
def qgQ(n:Nat):CL Try.prog:=⟨[qjy n],[qiq n],0,nof⟩
def qmO(n:Nat):LK Try.prog true:=mkL tab (qgQ n) [] Try.f16 [true,true,true,true,false,true,false,true,false,true,false,true,false,false] 1 n [.v (.t 9) T3,.v (.t 24) T23,.v (.t 25) T3,.v (.t 26) T3,.obj (.t 6) true 3 1,.v (.c 0 0) T3] [(.exit 2,[.v (.t 9) T3,.obj (.t 6) true 3 1,.v (.c 0 0) T3])] (by kernel_rfl)
def qiW(n:Nat):LK Try.prog false:=mkG tab (qgQ n) [qmO n] Try.f16 [true,true,true,true,false,true,false] 0 21 [22,23] (qtM n) [.obj (.t 6) false 3 1,.v (.c 0 0) T3] [] (by kernel_rfl)
def qjA(n:Nat):Ct Try.prog:=mkC tab (qgQ n) [qiW n] Try.func16 [.d T47] [T3,T26] (by kernel_rfl)
end
end
end Go.Proofs.Ytbdockhccdkdiaa
