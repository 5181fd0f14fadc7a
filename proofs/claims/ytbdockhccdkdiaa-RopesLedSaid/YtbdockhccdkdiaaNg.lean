/- Texts DnW, DnX, DnY in one. -/
import Derived.Test.YtbdockhccdkdiaaNf
import Derived.Test.YtbdockhccdkdiaaTg
/- Printed: what functions of the program compute. -/
set_option linter.constructorNameAsVariable false
set_option linter.unusedSimpArgs false
set_option linter.unusedVariables false
set_option linter.unusedSectionVars false
namespace Go.Proofs.Ytbdockhccdkdiaa
open Go Go.Proofs Go.RowKit
set_option maxRecDepth 20000
noncomputable section
section
def qmx(n:Nat):CL Try.prog:=⟨[],[],0,nof⟩
def qc4(n:Nat):Ct Try.prog:=mkC tab (qmx n) [] Try.func78 [.d T86,.d T3] [T4] (by kernel_rfl)
def qoZ(n:Nat):CL Try.prog:=⟨[],[],0,nof⟩
def qpB(n:Nat):Ct Try.prog:=mkC tab (qoZ n) [] Try.func105 [.d T138,.d T138] [T138,T138] (by kernel_rfl)
def qqi(n:Nat):CL Try.prog:=⟨[qpB n],[],0,nof⟩
def qqW(n:Nat):Ct Try.prog:=mkC tab (qqi n) [] Try.func102 [.d T37,.d T37] [T37,T37] (by kernel_rfl)
def qiW(n:Nat):CL Try.prog:=⟨[qqW n],[],0,nof⟩
def qm1(n:Nat):LK Try.prog false:=mkL tab (qiW n) [] Try.f94 [true,true,true,true,true,true,false,false,false] 0 n [.v (.t 8) T3,.row (.t 7) false T3 3] [(.exit 0,[.row (.t 7) false T3 3])] (by kernel_rfl)
def qjo(n:Nat):Cw Try.prog:=mkW tab (qiW n) [qm1 n] Try.func94 [.v (.t 0) T23,.v (.t 1) T3] 2 [[.row (.t 0) false T3 3]] (by kernel_rfl)
def qof(n:Nat):CL Try.prog:=⟨[qgl n],[],0,nof⟩
def qf1(n:Nat):Cw Try.prog:=mkW tab (qof n) [] Try.func73 [.v (.t 0) T3,.v (.t 1) T3,.obj (.t 2) true 47 10,.v (.c 0 0) T47] 3 [[.v (.t 0) T3,.obj (.t 1) true 47 10,.v (.c 0 0) T47]] (by kernel_rfl)
def qbm(n:Nat):CL Try.prog:=⟨[],[qf1 n],0,nof⟩
def qcS(n:Nat):LK Try.prog false:=mkL tab (qbm n) [] Try.f100 [true,false,false,true,false,false,true,false,false] 1 n [.v (.t 1) T3,.v (.t 2) T3,.v (.t 8) T3,.v (.t 9) T3,.row (.t 0) true T3 3,.fnc (.t 3) 73 [.box true 47 10],.v (.c 1 0) T47] [(.exit 2,[.v (.t 1) T3,.v (.t 2) T3,.v (.t 8) T3,.row (.t 0) true T3 3,.fnc (.t 3) 73 [.box true 47 10],.v (.c 1 0) T47])] (by kernel_rfl)
def qcT(n:Nat):LK Try.prog false:=mkL tab (qbm n) [qcS n] Try.f100 [true,false,false] 0 n [.v (.t 1) T3,.v (.t 2) T3,.v (.t 8) T3,.row (.t 0) true T3 3,.fnc (.t 3) 73 [.box true 47 10],.v (.c 1 0) T47] [(.exit 0,[.row (.t 0) true T3 3,.fnc (.t 3) 73 [.box true 47 10],.v (.c 1 0) T47])] (by kernel_rfl)
def qbt(n:Nat):Cw Try.prog:=mkW tab (qbm n) [qcT n] Try.func100 [.v (.t 1) T3,.v (.t 2) T3,.row (.t 0) true T3 3,.fnc (.t 3) 73 [.box true 47 10],.v (.c 1 0) T47] 4 [[.row (.t 0) true T3 3,.obj (.t 1) true 47 10,.v (.c 1 0) T47]] (by kernel_rfl)
def q9(n:Nat):CL Try.prog:=⟨[],[qf1 n,qbt n],0,nof⟩
def qdB(n:Nat):LK Try.prog false:=mkL tab (q9 n) [] Try.f92 [true,true,false,false,false] 0 n [.v (.t 1) T3,.v (.t 6) T3,.v (.t 7) T3,.v (.t 8) T3,.row (.t 0) true T3 3,.fnc (.t 2) 73 [.box true 47 10],.v (.c 1 0) T47] [(.exit 0,[.v (.t 1) T3,.v (.t 6) T3,.v (.t 7) T3,.row (.t 0) true T3 3,.fnc (.t 2) 73 [.box true 47 10],.v (.c 1 0) T47])] (by kernel_rfl)
def qdC(n:Nat):LK Try.prog false:=mkL tab (q9 n) [] Try.f92 [true,true,true,true,false,false,true,false,true,false,false,false] 2 n [.v (.t 1) T3,.v (.t 6) T3,.v (.t 7) T3,.v (.t 8) T3,.row (.t 0) true T3 3,.fnc (.t 2) 73 [.box true 47 10],.v (.c 1 0) T47] [(.exit 4,[.v (.t 1) T3,.v (.t 6) T3,.v (.t 7) T3,.row (.t 0) true T3 3,.fnc (.t 2) 73 [.box true 47 10],.v (.c 1 0) T47])] (by kernel_rfl)
def qdD(n:Nat):LK Try.prog false:=mkL tab (q9 n) [qdC n] Try.f92 [true,true,true,true,false,false] 1 n [.v (.t 1) T3,.v (.t 6) T3,.row (.t 0) true T3 3,.fnc (.t 2) 73 [.box true 47 10],.v (.c 1 0) T47] [(.exit 2,[.row (.t 0) true T3 3,.fnc (.t 2) 73 [.box true 47 10],.v (.c 1 0) T47])] (by kernel_rfl)
def qcp(n:Nat):Cw Try.prog:=mkW tab (q9 n) [qdB n,qdD n] Try.func92 [.v (.t 1) T3,.row (.t 0) true T3 3,.fnc (.t 2) 73 [.box true 47 10],.v (.c 1 0) T47] 3 [[.row (.t 0) true T3 3,.obj (.t 1) true 47 10,.v (.c 1 0) T47]] (by kernel_rfl)
def qf2(n:Nat):CL Try.prog:=⟨[],[qf1 n,qcp n],0,nof⟩
def qcj(n:Nat):Cw Try.prog:=mkW tab (qf2 n) [] Try.func72 [.row (.t 0) true T3 3,.fnc (.t 1) 73 [.box true 47 10],.v (.c 1 0) T47] 2 [[.row (.t 0) true T3 3,.obj (.t 1) true 47 10,.v (.c 1 0) T47]] (by kernel_rfl)
def qkL(n:Nat):CL Try.prog:=⟨[qoa n,qfd n,qik n],[qcj n],0,nof⟩
def qkM(n:Nat):LK Try.prog false:=mkL tab (qkL n) [] Try.f47 [true,true,true,false,true,false,false] 0 n [.v (.t 21) T45,.v (.t 22) T3,.v (.t 23) T3,.obj (.t 1) false 47 10,.v (.c 0 0) T47,.obj (.t 5) false 116 11,.v (.c 1 0) T47,.row (.c 1 10) false T3 3,.obj (.t 6) false 99 4,.v (.c 3 0) T99] [(.exit 0,[.obj (.t 1) false 47 10,.v (.c 0 0) T47,.obj (.t 5) false 116 11,.v (.c 1 0) T47,.row (.c 1 10) false T3 3])] (by kernel_rfl)
def qiI(n:Nat):Cw Try.prog:=mkW tab (qkL n) [qkM n] Try.func47 [.v (.t 0) T47] 1 [[.v (.t 0) T86,.v (.t 1) T26],[.nilp (.t 0),.v (.t 1) T26]] (by kernel_rfl)
def qk4(n:Nat):CL Try.prog:=⟨[qgl n],[],0,nof⟩
def qd5(n:Nat):Cw Try.prog:=mkW tab (qk4 n) [] Try.func95 [.v (.t 0) T3,.v (.t 1) T3,.obj (.t 2) true 23 1,.row (.c 0 0) true T3 3] 3 [[.v (.t 0) T3,.obj (.t 1) true 23 1,.row (.c 0 0) true T3 3]] (by kernel_rfl)
def qV(n:Nat):CL Try.prog:=⟨[],[qd5 n],0,nof⟩
def qcq(n:Nat):LK Try.prog false:=mkL tab (qV n) [] Try.f100 [true,false,false,true,false,false,true,false,false] 1 n [.v (.t 1) T3,.v (.t 2) T3,.v (.t 8) T3,.v (.t 9) T3,.row (.t 0) true T3 3,.fnc (.t 3) 95 [.box true 23 1],.row (.c 1 0) true T3 3] [(.exit 2,[.v (.t 1) T3,.v (.t 2) T3,.v (.t 8) T3,.row (.t 0) true T3 3,.fnc (.t 3) 95 [.box true 23 1],.row (.c 1 0) true T3 3])] (by kernel_rfl)
def qcr(n:Nat):LK Try.prog false:=mkL tab (qV n) [qcq n] Try.f100 [true,false,false] 0 n [.v (.t 1) T3,.v (.t 2) T3,.v (.t 8) T3,.row (.t 0) true T3 3,.fnc (.t 3) 95 [.box true 23 1],.row (.c 1 0) true T3 3] [(.exit 0,[.row (.t 0) true T3 3,.fnc (.t 3) 95 [.box true 23 1],.row (.c 1 0) true T3 3])] (by kernel_rfl)
def qcw(n:Nat):Cw Try.prog:=mkW tab (qV n) [qcr n] Try.func100 [.v (.t 1) T3,.v (.t 2) T3,.row (.t 0) true T3 3,.fnc (.t 3) 95 [.box true 23 1],.row (.c 1 0) true T3 3] 4 [[.row (.t 0) true T3 3,.obj (.t 1) true 23 1,.row (.c 1 0) true T3 3]] (by kernel_rfl)
def qM(n:Nat):CL Try.prog:=⟨[],[qd5 n,qbt n,qcw n],0,nof⟩
def qcX(n:Nat):LK Try.prog false:=mkL tab (qM n) [] Try.f92 [true,true,false,false,false] 0 n [.v (.t 1) T3,.v (.t 6) T3,.v (.t 7) T3,.v (.t 8) T3,.row (.t 0) true T3 3,.fnc (.t 2) 95 [.box true 23 1],.row (.c 1 0) true T3 3] [(.exit 0,[.v (.t 1) T3,.v (.t 6) T3,.v (.t 7) T3,.row (.t 0) true T3 3,.fnc (.t 2) 95 [.box true 23 1],.row (.c 1 0) true T3 3])] (by kernel_rfl)
def qcY(n:Nat):LK Try.prog false:=mkL tab (qM n) [] Try.f92 [true,true,true,true,false,false,true,false,true,false,false,false] 2 n [.v (.t 1) T3,.v (.t 6) T3,.v (.t 7) T3,.v (.t 8) T3,.row (.t 0) true T3 3,.fnc (.t 2) 95 [.box true 23 1],.row (.c 1 0) true T3 3] [(.exit 4,[.v (.t 1) T3,.v (.t 6) T3,.v (.t 7) T3,.row (.t 0) true T3 3,.fnc (.t 2) 95 [.box true 23 1],.row (.c 1 0) true T3 3])] (by kernel_rfl)
def qcZ(n:Nat):LK Try.prog false:=mkL tab (qM n) [qcY n] Try.f92 [true,true,true,true,false,false] 1 n [.v (.t 1) T3,.v (.t 6) T3,.row (.t 0) true T3 3,.fnc (.t 2) 95 [.box true 23 1],.row (.c 1 0) true T3 3] [(.exit 2,[.row (.t 0) true T3 3,.fnc (.t 2) 95 [.box true 23 1],.row (.c 1 0) true T3 3])] (by kernel_rfl)
def qc5(n:Nat):Cw Try.prog:=mkW tab (qM n) [qcX n,qcZ n] Try.func92 [.v (.t 1) T3,.row (.t 0) true T3 3,.fnc (.t 2) 95 [.box true 23 1],.row (.c 1 0) true T3 3] 3 [[.row (.t 0) true T3 3,.obj (.t 1) true 23 1,.row (.c 1 0) true T3 3]] (by kernel_rfl)
def qe8(n:Nat):CL Try.prog:=⟨[],[qcp n,qc5 n,qd5 n],0,nof⟩
def qc0(n:Nat):Cw Try.prog:=mkW tab (qe8 n) [] Try.func72 [.row (.t 0) true T3 3,.fnc (.t 1) 95 [.box true 23 1],.row (.c 1 0) true T3 3] 2 [[.row (.t 0) true T3 3,.obj (.t 1) true 23 1,.row (.c 1 0) true T3 3]] (by kernel_rfl)
def qeF(n:Nat):CL Try.prog:=⟨[],[qcj n,qc0 n,qjo n],1,nof⟩
def qgB(n:Nat):LK Try.prog false:=mkL tab (qeF n) [] Try.f77 [true,true,true,false,true,false,false] 0 n [.v (.t 0) T86,.v (.t 21) T3,.v (.t 22) T3,.row (.t 1) true T3 3,.obj (.t 3) false 23 1,.al (.c 1 0) 0,.row (.t 6) false T3 3,.row (.t 7) false T3 3,.sub (.t 20) 0] [(.exit 0,[.v (.t 0) T86,.row (.t 1) true T3 3,.obj (.t 3) false 23 1,.al (.c 1 0) 0,.row (.t 6) false T3 3,.row (.t 7) false T3 3])] (by kernel_rfl)
def qgC(n:Nat):LK Try.prog false:=mkL tab (qeF n) [] Try.f77 [true,true,true,true,true,false,true,false,false] 1 n [.v (.t 0) T86,.v (.t 37) T23,.v (.t 38) T3,.v (.t 39) T3,.row (.t 1) true T3 3,.obj (.t 3) false 23 1,.al (.c 1 0) 0,.row (.t 6) false T3 3] [(.exit 2,[.row (.t 1) true T3 3,.row (.t 6) false T3 3]),(.ret,[.v (.t 4) T23,.v (.t 5) T4,.row (.t 1) true T3 3])] (by kernel_rfl)
def qbi(n:Nat):Cw Try.prog:=mkW tab (qeF n) [qgB n,qgC n] Try.func77 [.v (.t 0) T86,.row (.t 1) true T3 3] 2 [[.v (.t 0) T23,.v (.t 1) T4,.row (.t 2) true T3 3]] (by kernel_rfl)
def qgb(n:Nat):CL Try.prog:=⟨[],[],0,fun _=>false⟩
def qip(n:Nat):Nat→St→PT (DEx×St):=fun _ _=>.fail
theorem qm2(n:Nat):qbg (qgb n).c (qz Try.f48) 0=[]:=by kernel_rfl
theorem qm3:Try.f48.body=some (qz Try.f48):=by kernel_rfl
abbrev qgr:List Ar:=[.d T86]
abbrev qeT:List Ty:=[T86]
def qiX(n:Nat)(x:qeE qgr):Option (qw qeT):=(qej tab (qgb n) (qip n) (qz Try.f48) 0 (qgX qgr 4 x)).run (qxQ 2 75 qeT)
def qiY(n:Nat):Ct Try.prog:=⟨48,qgr,.fb 75 qeT,qiX n,fun _ _ h=>qyD (B:=tab) (cs:=qgb n) (lo:=qip n) (i:=2) (g:=75) (caps:=qeT) Try.func48 (by kernel_rfl) qm3 (by kernel_rfl) (qk0 (qm2 n) qh2) h⟩
end
set_option maxHeartbeats 4000000
abbrev OutT:=T86.den
def ptOf:Ty→Ty
 | .pt t=>t
 | t=>t
def tmGs(x:OutT):List (Int×(Int×Int)):=x.1.2.2.2.1
def tmCl(x:OutT):List Int:=x.1.2.2.2.2.1
def qlu(n:Nat)(x:OutT)(g:Nat):Option (Bool×Unit):=(qc4 n).M (x,((g:Int),()))
def qj7(n:Nat)(x:OutT)(c:List Int):Option (List Int×(Bool×(List Int×Unit))):=(qbi n).M (x,(c,()))
def tmLd(n:Nat)(x:OutT)(g:Nat):Bool:=((qlu n x g).map fun y=>y.1).getD false
def tmRp(n:Nat)(x:OutT)(c:List Int):Option (List Int):=(qj7 n x c).bind fun y=>cond y.2.1 (some y.1) none
theorem quu{n:Nat}{x:OutT}{g:Nat}{b:Bool}(h:qlu n x g=some (b,())):tmLd n x g=b:=by unfold tmLd;rw[h];rfl
theorem qrx{n:Nat}{x:OutT}{c o:List Int}{b:Bool}{u:List Int×Unit}(h:qj7 n x c=some (o,(b,u))):tmRp n x c=cond b (some o) none:=by unfold tmRp;rw[h];rfl
def tmO(n:Nat)(x:OutT):TmO where
 G:=(tmGs x).length
 clients:=tmCl x
 pts g:=(((tmGs x)[g]?).map fun z=>z.2.2).getD 0
 lead g:=tmLd n x g
 rop c:=tmRp n x c
structure TmOk (n:Nat) (x:OutT):Prop where
 gl:(tmGs x).length≤4
 cl:(tmCl x).length≤6
 cb:∀c,c∈tmCl x→1≤c∧c≤20
 gb:∀z,z∈tmGs x→z.2.2≤20
 ld:∀g:Nat,g<(tmGs x).length→∃b,qlu n x g=some (b,())
 rd:∀l:List Int,l.length=(tmGs x).length→(∀c,c∈l→0≤c∧c≤6)→∃o b,qj7 n x l=some (o,(b,(l,())))∧(b=false→o=[])
theorem MC.imp{P:Program}{f:FuncId}{args:List AV}{H:List HE}{R R':AV→List HE→Prop}(h:MC P f args H R)(hR:∀r H',R r H'→R' r H'):MC P f args H R' :=
 ⟨h.1,fun w S N vs hT hs=>(h.2 w S N vs hT hs).mono fun _ _ ⟨u,r,H',h1,h2,h3⟩=>⟨u,r,H',h1,hR r H' h2,h3⟩⟩
theorem qxj(n:Nat)(x:OutT)(l:List Int)(rc:Nat)(o:List Int)(b:Bool)(hl:l.length≤4)(h:qj7 n x l=some (o,(b,(l,())))) :
  MC Try.prog 77 [T86.argA x,.val (.slice (some ⟨rc,0,none⟩) l.length l.length)] [.blk rc 3 (ints l)] fun r H'=>H'=[.blk rc 3 (ints l)]∧r = .tup [slA intC 1 o,.val (.bool b)]:=by
 have h0:=(qbi n).ok (x,(l,())) (o,(b,(l,()))) h (fun _=>.slice (some ⟨rc,0,none⟩) l.length l.length) (fun _ _=>.inl ⟨_,_,_,rfl⟩)
 have hi:ints l=(l.map (T3.enc)).flatten:=by
  clear h h0 hl
  induction l with
  | nil=>rfl
  | cons a l ih =>
   show AV.int a::ints l=AV.int a::(List.map T3.enc l).flatten
   rw[ih]
 rw[hi]
 have e:qa (gOf (fun _=>.slice (some ⟨rc,0,none⟩) l.length l.length) (mkS (qbi n).ins (qbi n).p (x,(l,()))).H) (mkS (qbi n).ins (qbi n).p (x,(l,()))).T=[T86.argA x,.val (.slice (some ⟨rc,0,none⟩) l.length l.length)]:=by
  exact congrArg (fun z=>[AV.rp z,AV.val (.slice (some ⟨rc,0,none⟩) l.length l.length)]) (qcW (ptOf T86) x)
 rw[e] at h0
 refine (MC.blkOwn (by rw[← hi,qlt,Nat.mul_one]) (Nat.le_trans hl (by decide)) (MC.imp (H:=[HE.own (.slice (some ⟨rc,0,none⟩) l.length l.length) 3 1 l.length ((l.map (T3.enc)).flatten)]) (R':=fun r H'=>H'=[HE.own (.slice (some ⟨rc,0,none⟩) l.length l.length) 3 1 l.length ((l.map (T3.enc)).flatten)]∧r = .tup [slA intC 1 o,.val (.bool b)]) h0 fun r H' hr=>?_) fun r H' hr=>hr.1).imp fun r H' hr=>⟨hr.1,hr.2.2⟩
 obtain ⟨m1,hs,hm,hv,hH⟩:=hr
 have hm0:m1 0 = .slice (some ⟨rc,0,none⟩) l.length l.length:=hm 0 (by show 0<1;omega)
 refine ⟨?_,?_⟩
 ·rw[hH]
  show [HE.own (m1 0) _ _ _ _]=_
  rw[hm0]
  rfl
 ·rw[hv]
  rfl
theorem qxk(n:Nat)(x:OutT)(g:Nat)(b:Bool)(h:qlu n x g=some (b,())):PC Try.prog 78 [T86.argA x,.val (.int .i64 (g:Int))] (.val (.bool b)):=by
 have:=(qc4 n).ok (x,((g:Int),())) (b,()) h
 have e:(qc4 n).f=78:=rfl
 have e2:arsA (qc4 n).ars (x,((g:Int),()))=[T86.argA x,.val (.int .i64 (g:Int))]:=rfl
 have e3:(qc4 n).rs.A (b,()) = .val (.bool b):=rfl
 rw[e,e2,e3] at this
 exact this
attribute [irreducible] qlu qj7 tmLd tmRp
theorem qto(n:Nat)(one:Bool)(x:OutT)(h:TmOk n x):qkQ Try.prog one 75 [] (qd4 [T86] (x,())) ((qcn (tmO n x)).map (qtn one)):=by
 have hld:=fun g hg=>h.ld g hg
 have hrd:=fun l h1 h2=>h.rd l h1 h2
 have h1:∀g:Nat,g<(tmO n x).G→PC Try.prog 78 [T86.argA x,.int (g:Int)] (.bool ((tmO n x).lead g)):=fun g hg=>by
  obtain ⟨b,hb⟩:=h.ld g hg
  show PC Try.prog 78 [T86.argA x,.int (g:Int)] (.bool (tmLd n x g))
  rw[quu hb]
  exact qxk n x g b hb
 have h2:∀(l:List Int) (rc:Nat),l.length=(tmO n x).G→(∀x∈l,0≤x∧x≤6)→MC Try.prog 77 [T86.argA x,.val (.slice (some ⟨rc,0,none⟩) l.length l.length)] [.blk rc 3 (ints l)] fun r H'=>H'=[.blk rc 3 (ints l)]∧qoY ((tmO n x).rop l) r:=fun l rc hl hc=>by
  obtain ⟨o,b,hb,ho⟩:=h.rd l hl hc
  refine (qxj n x l rc o b (by rw[hl];exact h.gl) hb).imp fun r H' hr=>⟨hr.1,?_⟩
  show qoY (tmRp n x l) r
  rw[qrx hb,hr.2]
  cases b with
  | true=>rfl
  | false=>rw[ho rfl];rfl
 have h3:∀k:Nat,k<(tmCl x).length→1≤cntN (tmCl x) k∧cntN (tmCl x) k≤20:=fun k hk=>by rw[qj6 _ _ hk];exact h.cb _ (List.getElem_mem hk)
 have h4:∀g:Nat,(tmO n x).pts g≤20:=fun g=>by
  show (((tmGs x)[g]?).map fun z=>z.2.2).getD 0≤20
  cases hx:(tmGs x)[g]? with
  | none=>simp
  | some z=>exact h.gb z (List.mem_of_getElem? hx)
 have h5:∀g:Nat,g<(tmO n x).G→∃a b,((tmGs x).map fun z=>[AV.val (.int .i64 z.1),.val (.int .i64 z.2.1),.val (.int .i64 z.2.2)])[g]?=some [a,b,.int ((tmO n x).pts g)]:=fun g hg=>by
  have hg':g<(tmGs x).length:=hg
  rw[List.getElem?_map,List.getElem?_eq_getElem hg']
  refine ⟨.val (.int .i64 (tmGs x)[g].1),.val (.int .i64 (tmGs x)[g].2.1),?_⟩
  rw[show (tmO n x).pts g=(tmGs x)[g].2.2 by show (((tmGs x)[g]?).map fun z=>z.2.2).getD 0=_;rw[List.getElem?_eq_getElem hg'];rfl]
  rfl
 have h6:∀k:Nat,k<(tmCl x).length→((tmCl x).map fun c=>[AV.val (.int .i64 c)])[k]?=some [.int (cntN (tmCl x) k)]:=fun k hk=>by
  rw[List.getElem?_map,List.getElem?_eq_getElem hk,qj6 _ _ hk];rfl
 have h7:((tmGs x).map fun z=>[AV.val (.int .i64 z.1),.val (.int .i64 z.2.1),.val (.int .i64 z.2.2)]).length=(tmO n x).G:=by rw[List.length_map];rfl
 have h8:((tmCl x).map fun c=>[AV.val (.int .i64 c)]).length=(tmCl x).length:=by rw[List.length_map]
 exact qxi (tmO n x) one _ _ _ _ _ _ _ _ _ _ _ h.gl h.cl h3 h4 h7 h5 h8 h6 h1 h2
open Classical in
def qku(n:Nat)(x:OutT):Option (List (List Nat×List Int)):=if TmOk n x then some (qcn (tmO n x)) else none
theorem qo0{n:Nat}{x:OutT}(h:TmOk n x):qku n x=some (qcn (tmO n x)):=if_pos h
theorem qsb{n:Nat}{x:OutT}{l:List (List Nat×List Int)}(h:qku n x=some l):TmOk n x∧l=qcn (tmO n x):=by
 unfold qku at h
 split at h
 ·next hk=>injection h with h;exact ⟨hk,h.symm⟩
 ·cases h
def qlv(n:Nat)(x:T86.den):Option (List (qw [T23])):=(qku n x).map fun l=>l.map fun e=>(e.2,())
def qo1(n:Nat)(x:T86.den):Option (List (qw [T23,T23])):=(qku n x).map fun l=>l.map fun e=>(e.1.map fun g:Nat=>(g:Int),(e.2,()))
def qyi(n:Nat):Itr Try.prog:=⟨75,[T86],[T23],false,1,fun x=>qlv n x.1,fun x l h=>by
 unfold qlv at h
 obtain ⟨x,u⟩:=x
 cases ht:qku n x with
 | none=>simp only[ht] at h;cases h
 | some m =>
  simp only[ht] at h
  injection h with h
  obtain ⟨h1,rfl⟩:=qsb ht
  subst h
  show qkQ Try.prog false 75 [] (qd4 [T86] (x,())) (List.map (fun y:List Int×Unit=>List.replicate 1 AV.any++tysA [T23] y) (List.map (fun e:List Nat×List Int=>(e.2,())) (qcn (tmO n x))))
  rw[List.map_map]
  exact qto n false x h1⟩
def qxl(n:Nat):Itr Try.prog:=⟨75,[T86],[T23,T23],true,0,fun x=>qo1 n x.1,fun x l h=>by
 unfold qo1 at h
 obtain ⟨x,u⟩:=x
 cases ht:qku n x with
 | none=>simp only[ht] at h;cases h
 | some m =>
  simp only[ht] at h
  injection h with h
  obtain ⟨h1,rfl⟩:=qsb ht
  subst h
  have e:=qto n true x h1
  show qkQ Try.prog true 75 [] (qd4 [T86] (x,())) (List.map (fun y:List Int×(List Int×Unit)=>List.replicate 0 AV.any++tysA [T23,T23] y) (List.map (fun e:List Nat×List Int=>(e.1.map fun g:Nat=>(g:Int),(e.2,()))) (qcn (tmO n x))))
  rw[List.map_map]
  refine (congrArg (fun f=>qkQ Try.prog true 75 [] (qd4 [T86] (x,())) ((qcn (tmO n x)).map f)) (funext fun y=>?_)).mp e
  show [AV.sl 1 (y.1.map fun a:Nat=>[AV.val (.int .i64 (a:Int))]),slA intC 1 y.2]=[AV.sl 1 ((y.1.map fun g:Nat=>(g:Int)).map fun a:Int=>[AV.val (.int .i64 a)]),_]
  rw[List.map_map]
  rfl⟩
section
def qjp(n:Nat):CL Try.prog:=⟨[qiY n],[qiI n],0,nof⟩
def qmh(n:Nat):LK Try.prog true:=mkL tab (qjp n) [] Try.f16 [true,true,true,true,false,true,false,true,false,true,false,true,false,false] 1 n [.v (.t 9) T3,.v (.t 24) T23,.v (.t 25) T3,.v (.t 26) T3,.obj (.t 6) true 3 1,.v (.c 0 0) T3] [(.exit 2,[.v (.t 9) T3,.obj (.t 6) true 3 1,.v (.c 0 0) T3])] (by kernel_rfl)
def qmi(n:Nat):LK Try.prog false:=mkG tab (qjp n) [qmh n] Try.f16 [true,true,true,true,false,true,false] 0 21 [22,23] (qyi n) [.obj (.t 6) false 3 1,.v (.c 0 0) T3] [] (by kernel_rfl)
def qj8(n:Nat):Ct Try.prog:=mkC tab (qjp n) [qmi n] Try.func16 [.d T47] [T3,T26] (by kernel_rfl)
end
end
end Go.Proofs.Ytbdockhccdkdiaa
