/- Texts DqM, Dh1 in one. -/
import Derived.Test.YtbdockhccdkdiaaGreatNh
import Derived.Test.YtbdockhccdkdiaaGreatQc
import Derived.Test.YtbdockhccdkdiaaGreatQa
/- printed by gen_eqf.py: models at plain types, and what they are, by computing. -/
set_option linter.constructorNameAsVariable false
set_option linter.unusedSimpArgs false
set_option linter.unusedVariables false
set_option linter.unusedSectionVars false
namespace Go.Proofs.YtbdockhccdkdiaaGreat
open Go Go.Proofs Go.RowKit
set_option maxRecDepth 100000
noncomputable section
def qjQ(n:Nat)(x:(Int×Unit)):(Option (Int×Unit)):=(qjP n).M x
def qbK(n:Nat)(rec:((Int×(Int×(Int×(Int×((List Int)×Unit)))))→(Option (Int×(Int×(Int×((List Int)×Unit)))))))(s:(Int×(Int×(Int×(Int×((List Int)×Unit)))))):(Option (Int×(Int×(Int×((List Int)×Unit))))):=(qd1 n).step rec s
def qI(n:Nat)(rec:((Int×(Int×(Int×((List Int)×Unit))))→(Option ((List Int)×Unit))))(s:(Int×(Int×(Int×((List Int)×Unit))))):(Option ((List Int)×Unit)):=(qd2 n).step rec s
def qcu(n:Nat)(x:(Int×(Int×((List Int)×Unit)))):(Option ((List Int)×Unit)):=(qd9 n).M x
def qeK(n:Nat)(g:qk)(rec:((Int×(Int×(Int×(Bool×(Bool×((List Int)×Unit))))))→(Option ((List Int)×Unit))))(s:(Int×(Int×(Int×(Bool×(Bool×((List Int)×Unit))))))):(Option ((List Int)×Unit)):=qeW n g rec s
def qe0(n:Nat)(g:qk)(x:(Int×(Int×(Int×((List Int)×Unit))))):(Option ((List Int)×Unit)):=qdr n g x
def qe1(g:qk)(x:(Int×(Int×(Int×((List Int)×Unit))))):(Option ((List Int)×Unit)):=g.1 x
def qft(n:Nat)(x:(Int×(Int×(Int×((List Int)×Unit))))):(Option ((List Int)×Unit)):=qfp n x
def qgq(n:Nat)(x:((List Int)×Unit)):(Option ((List Int)×Unit)):=(qiw n).M x
def qJ(n:Nat)(x:((List Int)×Unit)):(Option ((List Int)×Unit)):=(qhe n).M x
def qeL(n:Nat)(rec:((Int×((List Int)×(Int×(Int×Unit))))→(Option (Unit⊕(Bool×Unit)))))(s:(Int×((List Int)×(Int×(Int×Unit))))):(Option (Unit⊕(Bool×Unit))):=(qkv n).step rec s
def qgT(n:Nat)(x:((List Int)×(Int×Unit))):(Option (Bool×Unit)):=(qle n).M x
def qmS(n:Nat)(x:((Int×Int)×Unit)):(Option (Int×Unit)):=(qmR n).M x
def ql8(n:Nat)(x:((Int×Int)×Unit)):(Option (Int×Unit)):=(ql7 n).M x
def qds(n:Nat)(rec:(((Unit×Unit)×((List (Int×Int))×(Int×(Int×((List Int)×Unit)))))→(Option ((List Int)×Unit))))(s:((Unit×Unit)×((List (Int×Int))×(Int×(Int×((List Int)×Unit)))))):(Option ((List Int)×Unit)):=(qfr n).step rec s
def qdR(n:Nat)(x:((List (Int×Int))×((Unit×Unit)×Unit))):(Option ((List Int)×Unit)):=(qfz n).M x
def qdh(n:Nat)(rec:(((Unit×Unit)×((List (Int×Int))×(Int×(Int×((List Int)×Unit)))))→(Option ((List Int)×Unit))))(s:((Unit×Unit)×((List (Int×Int))×(Int×(Int×((List Int)×Unit)))))):(Option ((List Int)×Unit)):=(qeZ n).step rec s
def qdE(n:Nat)(x:((List (Int×Int))×((Unit×Unit)×Unit))):(Option ((List Int)×Unit)):=(qfs n).M x
def qhf(n:Nat)(x:((Int×Int)×Unit)):(Option (Bool×Unit)):=(qcT n).M x
def qcU(n:Nat)(x:((Int×Int)×Unit)):(Option (Bool×Unit)):=(qbV n).M x
def ql(n:Nat)(rec:(((List (Int×Int))×(Int×(Int×Unit)))→(Option (Unit⊕(Int×Unit)))))(s:((List (Int×Int))×(Int×(Int×Unit)))):(Option (Unit⊕(Int×Unit))):=(qbg n).step rec s
def qbm(n:Nat)(x:((List (Int×Int))×Unit)):(Option (Int×Unit)):=(qbl n).M x
def qba(n:Nat)(x:((List (Int×Int))×Unit)):(Option (Bool×Unit)):=(q9 n).M x
def qdi(n:Nat)(x:((List (Int×Int))×((Unit×Unit)×Unit))):(Option (Bool×Unit)):=(qdg n).M x
def qfZ(n:Nat)(x:((List (Int×Int))×(Bool×Unit))):(Option (Int×Unit)):=(qhN n).M x
def qfM(n:Nat)(x:((List (Int×Int))×(Int×Unit))):(Option (Bool×(Bool×(Int×Unit)))):=(qlf n).M x
def qB(n:Nat)(x:(Int×Unit)):(Option (Int×Unit)):=(qiE n).M x
def qev(n:Nat)(x:((List Int)×Unit)):(Option ((List Int)×Unit)):=qlr n x
theorem ql9(n:Nat)(x):qjQ n x=(Option.bind (qB n x) fun y=>(some y)):=by kernel_rfl
theorem qdo(n:Nat)(rec)(s):qbK n rec s=(cond (iGt s.2.2.2.1 s.1) (Option.bind (lat s.2.2.2.2.1 s.2.2.2.1) fun _=>(Option.bind (s.2.2.2.2.1[(Int.toNat s.2.2.2.1)]?) fun y1=>(Option.bind (lat s.2.2.2.2.1 (iW (iSub s.2.2.2.1 (1:Int)))) fun _=>(Option.bind (s.2.2.2.2.1[(Int.toNat (iW (iSub s.2.2.2.1 (1:Int))))]?) fun y3=>(Option.bind (qh7 n (y1,(y3,()))) fun y4=>(cond y4.1 (Option.bind (lat s.2.2.2.2.1 (iW (iSub s.2.2.2.1 (1:Int)))) fun _=>(Option.bind (s.2.2.2.2.1[(Int.toNat (iW (iSub s.2.2.2.1 (1:Int))))]?) fun y6=>(Option.bind (lat s.2.2.2.2.1 s.2.2.2.1) fun _=>(Option.bind (s.2.2.2.2.1[(Int.toNat s.2.2.2.1)]?) fun y8=>(Option.bind (lat s.2.2.2.2.1 s.2.2.2.1) fun _=>(Option.bind (s.2.2.2.2.1[(Int.toNat s.2.2.2.1)]?) fun _=>(Option.bind (lat (List.set s.2.2.2.2.1 (Int.toNat s.2.2.2.1) y6) (iW (iSub s.2.2.2.1 (1:Int)))) fun _=>(Option.bind ((List.set s.2.2.2.2.1 (Int.toNat s.2.2.2.1) y6)[(Int.toNat (iW (iSub s.2.2.2.1 (1:Int))))]?) fun _=>(rec (s.1,(s.2.1,(s.2.2.1,((iW (iSub s.2.2.2.1 (1:Int))),((List.set (List.set s.2.2.2.2.1 (Int.toNat s.2.2.2.1) y6) (Int.toNat (iW (iSub s.2.2.2.1 (1:Int)))) y8),())))))))))))))) (some (s.1,(s.2.1,(s.2.2.1,s.2.2.2.2)))))))))) (some (s.1,(s.2.1,(s.2.2.1,s.2.2.2.2))))):=by kernel_rfl
theorem qb1(n:Nat)(rec)(s):qI n rec s=(cond (iLt s.2.2.1 s.2.1) (Option.bind (qN n (qbK n) (s.1,(s.2.1,(s.2.2.1,s.2.2)))) fun y=>(rec (y.1,(y.2.1,((iW (iAdd y.2.2.1 (1:Int))),y.2.2.2))))) (some s.2.2.2)):=by kernel_rfl
theorem qga(n:Nat)(x):qcu n x=(Option.bind (qN n (qI n) (x.1,(x.2.1,((iW (iAdd x.1 (1:Int))),x.2.2)))) fun y=>(some y)):=by kernel_rfl
theorem qgQ(n:Nat)(g)(rec)(s):qeK n g rec s=(cond (iLe (iW (iSub s.2.1 s.1)) (12:Int)) (Option.bind (qcu n (s.1,(s.2.1,s.2.2.2.2.2))) fun y=>(some y)) (cond (iEq s.2.2.1 (0:Int)) none (cond (!s.2.2.2.1) none none))):=by kernel_rfl
theorem qgY(n:Nat)(g)(x):qe0 n g x=(Option.bind (qN n (qeK n g) (x.1,(x.2.1,(x.2.2.1,(true,(true,x.2.2.2)))))) fun y=>(some y)):=by kernel_rfl
theorem qgR(n k:Nat)(x):qe1 (qT n (k+1)) x=qe0 n (qT n k) x:=by kernel_rfl
theorem qhj(n:Nat)(x):qft n x=qe1 (qT n n) x:=by kernel_rfl
theorem qkx(n:Nat)(x):qgq n x=(Option.bind (qjQ n ((IntKind.wrap .u64 (((List.length x.1):Nat):Int)),())) fun y=>(Option.bind (qft n ((0:Int),((((List.length x.1):Nat):Int),(y.1,x)))) fun y1=>(some y1))):=by kernel_rfl
theorem qix(n:Nat)(rec)(s):qeL n rec s=(cond (iLt s.2.2.2.1 s.2.2.1) (Option.bind (lat s.2.1 s.2.2.2.1) fun y=>(cond (iGe (iW (iMul (iW (iAdd s.2.2.2.1 (1:Int))) y)) s.1) (some (Sum.inr (true,()))) (rec (s.1,(s.2.1,(s.2.2.1,((iW (iAdd s.2.2.2.1 (1:Int))),()))))))) (some (Sum.inl ()))):=by kernel_rfl
theorem qnk(n:Nat)(x):qgT n x=(Option.bind (qev n (x.1,())) fun y=>(Option.bind (qgq n y) fun y1=>(Option.bind (qJ n y1) fun y2=>(Option.bind (qN n (qeL n) (x.2.1,(y2.1,((((List.length y2.1):Nat):Int),((0:Int),()))))) fun y3=>(Sum.elim (fun _=>(some (false,()))) (fun b=>(some b)) y3))))):=by kernel_rfl
theorem qor(n:Nat)(x):qmS n x=(some (x.1.1,())):=by kernel_rfl
theorem qn0(n:Nat)(x):ql8 n x=(some (x.1.2,())):=by kernel_rfl
theorem qem(n:Nat)(rec)(s):qds n rec s=(cond (iLt s.2.2.2.1 s.2.2.1) (Option.bind (lat s.2.1 s.2.2.2.1) fun y=>(Option.bind (qmS n (y,())) fun y1=>(Option.bind (qD (Nat.ble (nAdd (List.length s.2.2.2.2.1) (1:Nat)) (17592186044416:Nat))) fun _=>(rec (((),()),(s.2.1,(s.2.2.1,((iW (iAdd s.2.2.2.1 (1:Int))),((List.append s.2.2.2.2.1 (y1.1::[])),()))))))))) (some s.2.2.2.2)):=by kernel_rfl
theorem qhD(n:Nat)(x):qdR n x=(Option.bind (qN n (qds n) (((),()),(x.1,((((List.length x.1):Nat):Int),((0:Int),([],())))))) fun y=>(some y)):=by kernel_rfl
theorem qee(n:Nat)(rec)(s):qdh n rec s=(cond (iLt s.2.2.2.1 s.2.2.1) (Option.bind (lat s.2.1 s.2.2.2.1) fun y=>(Option.bind (ql8 n (y,())) fun y1=>(Option.bind (qD (Nat.ble (nAdd (List.length s.2.2.2.2.1) (1:Nat)) (17592186044416:Nat))) fun _=>(rec (((),()),(s.2.1,(s.2.2.1,((iW (iAdd s.2.2.2.1 (1:Int))),((List.append s.2.2.2.2.1 (y1.1::[])),()))))))))) (some s.2.2.2.2)):=by kernel_rfl
theorem qhk(n:Nat)(x):qdE n x=(Option.bind (qN n (qdh n) (((),()),(x.1,((((List.length x.1):Nat):Int),((0:Int),([],())))))) fun y=>(some y)):=by kernel_rfl
theorem qjk(n:Nat)(x):qhf n x=(Option.bind (qhA n (x.1,((0:Int),((5000:Int),())))) fun y=>(some y)):=by kernel_rfl
theorem qeM(n:Nat)(x):qcU n x=(Option.bind (qhf n x) fun y=>(some ((!y.1),()))):=by kernel_rfl
theorem qY(n:Nat)(rec)(s):ql n rec s=(cond (iLt s.2.2.1 s.2.1) (Option.bind (lat s.1 s.2.2.1) fun y=>(Option.bind (qcU n (y,())) fun y1=>(cond y1.1 (some (Sum.inr s.2.2)) (rec (s.1,(s.2.1,((iW (iAdd s.2.2.1 (1:Int))),()))))))) (some (Sum.inl ()))):=by kernel_rfl
theorem qcp(n:Nat)(x):qbm n x=(Option.bind (qN n (ql n) (x.1,((((List.length x.1):Nat):Int),((0:Int),())))) fun y=>(Sum.elim (fun _=>(some ((Int.negSucc (0:Nat)),()))) (fun b=>(some b)) y)):=by kernel_rfl
theorem qci(n:Nat)(x):qba n x=(Option.bind (qbm n x) fun y=>(some ((iGe y.1 (0:Int)),()))):=by kernel_rfl
theorem qe7(n:Nat)(x):qdi n x=(Option.bind (qba n (x.1,())) fun y=>(some ((!y.1),()))):=by kernel_rfl
theorem qj1(n:Nat)(x):qfZ n x=(cond (iGt (((List.length x.1):Nat):Int) (8:Int)) (some ((92:Int),())) (Option.bind (qdi n (x.1,(((),()),()))) fun y=>(cond (!y.1) (some ((92:Int),())) (cond (!x.2.1) (some ((1:Int),())) (some ((0:Int),())))))):=by kernel_rfl
theorem qnl(n:Nat)(x):qfM n x=(Option.bind (qh6 n (x.2.1,((1:Int),((5000:Int),())))) fun y=>(Option.bind (qfZ n (x.1,y)) fun y1=>(cond (iNe y1.1 (0:Int)) (some (false,(false,y1))) (Option.bind (qdR n (x.1,(((),()),()))) fun y2=>(Option.bind (qgT n (y2.1,x.2)) fun y3=>(Option.bind (qdE n (x.1,(((),()),()))) fun y4=>(Option.bind (qgT n (y4.1,x.2)) fun y5=>(some (y3.1,(y5.1,((0:Int),()))))))))))):=by kernel_rfl
set_option maxHeartbeats 1000000
variable {α:Type}
theorem qvr{a b:Int}(h:a=b):iNe a b=false:=by simp[iNe,h]
theorem qni(n:Nat)(x:Int):qdf n (x,())=some (false,()):=by rw[qiu];simp only[qvr rfl]
theorem quN(n:Nat)(x y:Int):qh7 n (x,(y,()))=some (decide (x<y),()):=by
 rw[qmB]
 simp only[qni,Option.bind_some,cond_false]
theorem app0{α:Type}(A:List α)(y x:α)(m:List α):(A++y::x::m)[A.length]?=some y:=by simp
theorem app1{α:Type}(A:List α)(y x:α)(m:List α):(A++y::x::m)[A.length+1]?=some x:=by simp
theorem set1{α:Type}(A:List α)(y x z:α)(m:List α):(A++y::x::m).set (A.length+1) z=A++y::z::m:=by simp
theorem set0{α:Type}(A:List α)(y x z:α)(m:List α):(A++y::x::m).set A.length z=A++z::x::m:=by simp
theorem qop{k:Nat}(h:k<9223372036854775807):iW (iSub ((k+1:Nat):Int) 1)=(k:Int):=by
 rw[qnR (by unfold iSub;omega) (by unfold iSub;omega)];unfold iSub;omega
theorem qtT(n:Nat):∀k:Nat,k≤12→∃r,qB n ((IntKind.wrap .u64 (k:Int)),())=some r:=by
 intro k hk
 match k,hk with
 | 0,_=>exact ⟨_,(by kernel_rfl:qB n ((IntKind.wrap .u64 ((0:Nat):Int)),())=some (0,()))⟩
 | 1,_=>exact ⟨_,(by kernel_rfl:qB n ((IntKind.wrap .u64 ((1:Nat):Int)),())=some (1,()))⟩
 | 2,_=>exact ⟨_,(by kernel_rfl:qB n ((IntKind.wrap .u64 ((2:Nat):Int)),())=some (2,()))⟩
 | 3,_=>exact ⟨_,(by kernel_rfl:qB n ((IntKind.wrap .u64 ((3:Nat):Int)),())=some (2,()))⟩
 | 4,_=>exact ⟨_,(by kernel_rfl:qB n ((IntKind.wrap .u64 ((4:Nat):Int)),())=some (3,()))⟩
 | 5,_=>exact ⟨_,(by kernel_rfl:qB n ((IntKind.wrap .u64 ((5:Nat):Int)),())=some (3,()))⟩
 | 6,_=>exact ⟨_,(by kernel_rfl:qB n ((IntKind.wrap .u64 ((6:Nat):Int)),())=some (3,()))⟩
 | 7,_=>exact ⟨_,(by kernel_rfl:qB n ((IntKind.wrap .u64 ((7:Nat):Int)),())=some (3,()))⟩
 | 8,_=>exact ⟨_,(by kernel_rfl:qB n ((IntKind.wrap .u64 ((8:Nat):Int)),())=some (4,()))⟩
 | 9,_=>exact ⟨_,(by kernel_rfl:qB n ((IntKind.wrap .u64 ((9:Nat):Int)),())=some (4,()))⟩
 | 10,_=>exact ⟨_,(by kernel_rfl:qB n ((IntKind.wrap .u64 ((10:Nat):Int)),())=some (4,()))⟩
 | 11,_=>exact ⟨_,(by kernel_rfl:qB n ((IntKind.wrap .u64 ((11:Nat):Int)),())=some (4,()))⟩
 | 12,_=>exact ⟨_,(by kernel_rfl:qB n ((IntKind.wrap .u64 ((12:Nat):Int)),())=some (4,()))⟩
theorem qtU{k:Nat}:iGt ((k+1:Nat):Int) 0=true:=by unfold iGt;exact decide_eq_true (by omega)
theorem qrF{k:Nat}:Int.toNat (k:Int)=k:=by simp
theorem w12{k:Nat}(h:k≤12):iLe (iW (iSub (k:Int) 0)) 12=true:=by
 rw[qnR (by unfold iSub;omega) (by unfold iSub;omega)];unfold iLe iSub;exact decide_eq_true (by omega)
theorem qvs(n N i:Nat)(x:Int)(hN:N≤1000)(hn:2000≤n)(r m:List Int)(hr:r.length≤N):qN n (qbK n) ((0:Int),((N:Int),((i:Int),((r.length:Int),((r.reverse++x::m),())))))=some ((0:Int),((N:Int),((i:Int),(((insL (fun x y=>decide (x<y)) x r).reverse++m),())))):=by
 exact qq2 (step:=qbK n) (fun x y=>decide (x<y)) (fun j d=>((0:Int),((N:Int),((i:Int),((j:Int),(d,())))))) (fun d=>some ((0:Int),((N:Int),((i:Int),(d,()))))) x N (fun rec A y m hA=>by
  rw[qdo]
  have hj:A.length<9223372036854775807:=by omega
  simp only[qtU,cond_true,qol,app0,app1,Option.bind_some,qop hj,qrF,quN,set1,set0]) (fun rec d=>by
  rw[qdo]
  rfl) r m n hr (by omega)
theorem qu9(n:Nat)(l:List Int)(hl:l.length≤1000)(hn:2000≤n):qcu n ((0:Int),((l.length:Int),(l,())))=some (qgy (fun x y=>decide (x<y)) l,()):=by
 rw[qga]
 cases l with
 | nil =>
  obtain ⟨n',rfl⟩:∃m,n=m+1:=⟨n-1,by omega⟩
  rw[qbt,qb1]
  rfl
 | cons a l =>
  obtain ⟨N,hN⟩:∃N,N=(a::l).length:=⟨_,rfl⟩
  have hl':l.length+1=N:=by rw[hN];rfl
  have h1:∀rec (r:List Int) x m,r.length+1+m.length=N→qI n rec ((0:Int),((N:Int),((r.length:Int),((r.reverse++x::m),()))))=rec ((0:Int),((N:Int),(((r.length+1:Nat):Int),(((insL (fun x y=>decide (x<y)) x r).reverse++m),())))):=fun rec r x m hm=>by
   rw[qb1]
   simp only[quC (show r.length<N by omega),cond_true,qvs n N r.length x (by omega) hn r m (by omega),Option.bind_some,qeC (show r.length<9223372036854775807 by omega)]
  have h0:∀rec (d:List Int),qI n rec ((0:Int),((N:Int),((N:Int),(d,()))))=some (d,()):=fun rec d=>by
   rw[qb1]
   simp only[quD,cond_false]
  have go:∀(l2 r:List Int) (n':Nat),r.length+l2.length=N→l2.length<n'→qN n' (qI n) ((0:Int),((N:Int),((r.length:Int),((r.reverse++l2),()))))=some ((qgK (fun x y=>decide (x<y)) r l2).reverse,()):=by
   intro l2
   induction l2 with
   | nil =>
    intro r n' hr hn'
    obtain ⟨n',rfl⟩:∃m,n'=m+1:=⟨n'-1,by omega⟩
    have hr':r.length=N:=by simpa using hr
    rw[qbt,List.append_nil,hr',h0]
    rfl
   | cons x l2 ih =>
    intro r n' hr hn'
    obtain ⟨n',rfl⟩:∃m,n'=m+1:=⟨n'-1,by omega⟩
    simp only[List.length_cons] at hr hn'
    rw[qbt,h1 _ r x l2 (by omega),qgK]
    have:=ih (insL (fun x y=>decide (x<y)) x r) n' (by rw[qnc];omega) (by omega)
    rw[qnc] at this
    exact this
  have h3:=go l [a] n (by simp;omega) (by omega)
  rw[← hN]
  have e1:iW (iAdd (0:Int) 1)=((1:Nat):Int):=qeC (k:=0) (by omega)
  simp only[e1]
  have e2:(qgK (fun x y=>decide (x<y)) [a] l).reverse=qgy (fun x y=>decide (x<y)) (a::l):=rfl
  rw[e2] at h3
  show Option.bind (qN n (qI n) ((0:Int),((N:Int),(((([a]:List Int).length:Nat):Int),((([a]:List Int).reverse++l),()))))) _=_
  rw[h3]
  rfl
theorem quO(n:Nat)(l:List Int)(hl:l.length≤12)(hn:2000≤n):qgq n (l,())=some (qgy (fun x y=>decide (x<y)) l,()):=by
 rw[qkx,ql9]
 obtain ⟨rr,hrr⟩:=qtT n l.length hl
 simp only[hrr,Option.bind_some]
 rw[qhj]
 obtain ⟨n',rfl⟩:∃m,n=m+1:=⟨n-1,by omega⟩
 rw[qgR,qgY,qbt,qgQ]
 simp only[w12 hl,cond_true,qu9 (n'+1) l (by omega) hn,Option.bind_some]
theorem qmT(lt:α→α→Bool)(key:α→Int)(x:α):∀(r:List α),(∀y,y∈r→(lt x y=true→key x≤key y)∧(lt x y=false→key y≤key x))→r.Pairwise (fun a b=>key b≤key a)→(insL lt x r).Pairwise (fun a b=>key b≤key a)
 | [],_,_=>by simp[insL]
 | y::r,h,hr=>by
  rw[List.pairwise_cons] at hr
  unfold insL
  cases hl:lt x y with
  | true =>
   simp only[cond_true]
   rw[List.pairwise_cons]
   refine ⟨fun z hz=>?_,qmT lt key x r (fun z hz=>h z (List.mem_cons_of_mem _ hz)) hr.2⟩
   rcases List.mem_cons.1 ((qjM lt x r).mem_iff.1 hz) with rfl | hz
   ·exact (h y List.mem_cons_self).1 hl
   ·exact hr.1 z hz
  | false =>
   simp only[cond_false]
   rw[List.pairwise_cons,List.pairwise_cons]
   have hy:=(h y List.mem_cons_self).2 hl
   exact ⟨fun z hz=>(by rcases List.mem_cons.1 hz with rfl | hz;exact hy;exact Int.le_trans (hr.1 z hz) hy),hr⟩
theorem qlg(lt:α→α→Bool)(key:α→Int):∀(l r:List α),(∀x y,x∈r++l→y∈r++l→(lt x y=true→key x≤key y)∧(lt x y=false→key y≤key x))→r.Pairwise (fun a b=>key b≤key a)→(qgK lt r l).Pairwise (fun a b=>key b≤key a)
 | [],r,_,hr=>hr
 | x::l,r,h,hr=>by
  rw[qgK]
  have hm:∀a,a∈insL lt x r++l→a∈r++x::l:=fun a ha=>by
   rcases List.mem_append.1 ha with ha | ha
   ·rcases List.mem_cons.1 ((qjM lt x r).mem_iff.1 ha) with rfl | ha<;>simp[*]
   ·simp[ha]
  exact qlg lt key l _ (fun a b ha hb=>h a b (hm a ha) (hm b hb)) (qmT lt key x r (fun y hy=>h x y (by simp) (by simp[hy])) hr)
theorem qqf(lt:α→α→Bool)(key:α→Int)(l:List α)(h:∀x y,x∈l→y∈l→(lt x y=true→key x≤key y)∧(lt x y=false→key y≤key x)):(qgy lt l).Pairwise (fun a b=>key a≤key b):=by
 unfold qgy
 rw[List.pairwise_reverse]
 exact qlg lt key l [] (by simpa using h) List.Pairwise.nil
end
end Go.Proofs.YtbdockhccdkdiaaGreat
