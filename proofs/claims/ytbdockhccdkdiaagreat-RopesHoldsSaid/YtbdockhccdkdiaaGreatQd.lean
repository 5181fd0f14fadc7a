/- Texts DqM, Dh1 in one. -/
import Derived.Test.YtbdockhccdkdiaaGreatNh
import Derived.Test.YtbdockhccdkdiaaGreatQc
import Derived.Test.YtbdockhccdkdiaaGreatQa
/- printed by gen_eqf.py: models at plain types, and what they are, by computing. -/
set_option linter.constructorNameAsVariable false
set_option linter.unusedSimpArgs false
set_option linter.unusedVariables false
set_option linter.unusedSectionVars false
namespace Go.Proofs.YtbdockhccdkdiaaGreat
open Go Go.Proofs Go.RowKit
set_option maxRecDepth 100000
noncomputable section
def qk1(n:Nat)(x:(Int×Unit)):(Option (Int×Unit)):=(qk0 n).M x
def qbK(n:Nat)(rec:((Int×(Int×(Int×(Int×((List Int)×Unit)))))→(Option (Int×(Int×(Int×((List Int)×Unit)))))))(s:(Int×(Int×(Int×(Int×((List Int)×Unit)))))):(Option (Int×(Int×(Int×((List Int)×Unit))))):=(qeg n).step rec s
def qG(n:Nat)(rec:((Int×(Int×(Int×((List Int)×Unit))))→(Option ((List Int)×Unit))))(s:(Int×(Int×(Int×((List Int)×Unit))))):(Option ((List Int)×Unit)):=(qeh n).step rec s
def qcC(n:Nat)(x:(Int×(Int×((List Int)×Unit)))):(Option ((List Int)×Unit)):=(qer n).M x
def qfc(n:Nat)(g:qk)(rec:((Int×(Int×(Int×(Bool×(Bool×((List Int)×Unit))))))→(Option ((List Int)×Unit))))(s:(Int×(Int×(Int×(Bool×(Bool×((List Int)×Unit))))))):(Option ((List Int)×Unit)):=qfr n g rec s
def qfv(n:Nat)(g:qk)(x:(Int×(Int×(Int×((List Int)×Unit))))):(Option ((List Int)×Unit)):=qdC n g x
def qfw(g:qk)(x:(Int×(Int×(Int×((List Int)×Unit))))):(Option ((List Int)×Unit)):=g.1 x
def qfU(n:Nat)(x:(Int×(Int×(Int×((List Int)×Unit))))):(Option ((List Int)×Unit)):=qfR n x
def qg1(n:Nat)(x:((List Int)×Unit)):(Option ((List Int)×Unit)):=(qjw n).M x
def qH(n:Nat)(x:((List Int)×Unit)):(Option ((List Int)×Unit)):=(qh0 n).M x
def qfd(n:Nat)(rec:((Int×((List Int)×(Int×(Int×Unit))))→(Option (Unit⊕(Bool×Unit)))))(s:(Int×((List Int)×(Int×(Int×Unit))))):(Option (Unit⊕(Bool×Unit))):=(qlH n).step rec s
def qgj(n:Nat)(x:((List Int)×(Int×Unit))):(Option (Bool×Unit)):=(qjF n).M x
def qog(n:Nat)(x:((Int×Int)×Unit)):(Option (Int×Unit)):=(qof n).M x
def qnt(n:Nat)(x:((Int×Int)×Unit)):(Option (Int×Unit)):=(qnq n).M x
def qdD(n:Nat)(rec:(((Unit×Unit)×((List (Int×Int))×(Int×(Int×((List Int)×Unit)))))→(Option ((List Int)×Unit))))(s:((Unit×Unit)×((List (Int×Int))×(Int×(Int×((List Int)×Unit)))))):(Option ((List Int)×Unit)):=(qfT n).step rec s
def qb0(n:Nat)(x:((List (Int×Int))×((Unit×Unit)×Unit))):(Option ((List Int)×Unit)):=(qcF n).M x
def qdm(n:Nat)(rec:(((Unit×Unit)×((List (Int×Int))×(Int×(Int×((List Int)×Unit)))))→(Option ((List Int)×Unit))))(s:((Unit×Unit)×((List (Int×Int))×(Int×(Int×((List Int)×Unit)))))):(Option ((List Int)×Unit)):=(qfu n).step rec s
def qdP(n:Nat)(x:((List (Int×Int))×((Unit×Unit)×Unit))):(Option ((List Int)×Unit)):=(qcw n).M x
def qh2(n:Nat)(x:((Int×Int)×Unit)):(Option (Bool×Unit)):=(qc3 n).M x
def qc4(n:Nat)(x:((Int×Int)×Unit)):(Option (Bool×Unit)):=(qbW n).M x
def ql(n:Nat)(rec:(((List (Int×Int))×(Int×(Int×Unit)))→(Option (Unit⊕(Int×Unit)))))(s:((List (Int×Int))×(Int×(Int×Unit)))):(Option (Unit⊕(Int×Unit))):=(qbd n).step rec s
def qbj(n:Nat)(x:((List (Int×Int))×Unit)):(Option (Int×Unit)):=(qbi n).M x
def qZ(n:Nat)(x:((List (Int×Int))×Unit)):(Option (Bool×Unit)):=(qY n).M x
def qdn(n:Nat)(x:((List (Int×Int))×((Unit×Unit)×Unit))):(Option (Bool×Unit)):=(qdl n).M x
def qcK(n:Nat)(x:((List (Int×Int))×(Bool×Unit))):(Option (Int×Unit)):=(qeR n).M x
def qgk(n:Nat)(x:((List (Int×Int))×(Int×Unit))):(Option (Bool×(Bool×(Int×Unit)))):=(qmz n).M x
def qiw(n:Nat)(rec:(((List Int)×(Int×(Int×(Int×(Int×Unit)))))→(Option (Int×Unit))))(s:((List Int)×(Int×(Int×(Int×(Int×Unit)))))):(Option (Int×Unit)):=(qlJ n).step rec s
def qhG(n:Nat)(x:((List Int)×(Int×Unit))):(Option (Int×Unit)):=(qjG n).M x
def qgl(n:Nat)(x:((List (Int×Int))×(Int×Unit))):(Option (Int×(Int×Unit))):=(qmA n).M x
def qdo(n:Nat)(rec:((Int×((List (Int×Int))×(Int×(Int×((List (Int×Int))×Unit)))))→(Option ((List (Int×Int))×Unit))))(s:(Int×((List (Int×Int))×(Int×(Int×((List (Int×Int))×Unit)))))):(Option ((List (Int×Int))×Unit)):=(qhi n).step rec s
def qfn(n:Nat)(x:((List (Int×Int))×(Int×Unit))):(Option ((List (Int×Int))×Unit)):=(qhu n).M x
def qes(n:Nat)(x:(Int×((List (Int×Int))×(Int×(Int×Unit))))):(Option (Bool×((List (Int×Int))×(Int×(Int×Unit))))):=(qjK n).M x
def qo(n:Nat)(rec:((Int×(Int×(Int×((List (Int×Int))×(Int×(Int×((List Int)×Unit)))))))→(Option (Int×((List (Int×Int))×(Int×(Int×((List Int)×Unit))))))))(s:(Int×(Int×(Int×((List (Int×Int))×(Int×(Int×((List Int)×Unit)))))))):(Option (Int×((List (Int×Int))×(Int×(Int×((List Int)×Unit)))))):=(qeW n).step rec s
def qb3(n:Nat)(rec:(((List Int)×((List Int)×(Bool×(Int×(Int×((List (Int×Int))×(Int×(Int×Unit))))))))→(Option ((List Int)×(Bool×((List (Int×Int))×(Int×(Int×Unit))))))))(s:((List Int)×((List Int)×(Bool×(Int×(Int×((List (Int×Int))×(Int×(Int×Unit))))))))):(Option ((List Int)×(Bool×((List (Int×Int))×(Int×(Int×Unit)))))):=(qeX n).step rec s
def qci(n:Nat)(x:(Int×((List (Int×Int))×(Int×(Int×Unit))))):(Option ((List Int)×(Bool×((List (Int×Int))×(Int×(Int×Unit)))))):=(qfb n).M x
def qfV(n:Nat)(x:((List (Int×Int))×(Int×(Int×Unit)))):(Option ((List Int)×(Int×Unit))):=(qlK n).M x
def qA(n:Nat)(x:(Int×Unit)):(Option (Int×Unit)):=(qjJ n).M x
def qeS(n:Nat)(x:((List Int)×Unit)):(Option ((List Int)×Unit)):=qmL n x
theorem qnu(n:Nat)(x):qk1 n x=(Option.bind (qA n x) fun y=>(some y)):=by kernel_rfl
theorem qdz(n:Nat)(rec)(s):qbK n rec s=(cond (iGt s.2.2.2.1 s.1) (Option.bind (lat s.2.2.2.2.1 s.2.2.2.1) fun _=>(Option.bind (s.2.2.2.2.1[(Int.toNat s.2.2.2.1)]?) fun y1=>(Option.bind (lat s.2.2.2.2.1 (iW (iSub s.2.2.2.1 (1:Int)))) fun _=>(Option.bind (s.2.2.2.2.1[(Int.toNat (iW (iSub s.2.2.2.1 (1:Int))))]?) fun y3=>(Option.bind (qi5 n (y1,(y3,()))) fun y4=>(cond y4.1 (Option.bind (lat s.2.2.2.2.1 (iW (iSub s.2.2.2.1 (1:Int)))) fun _=>(Option.bind (s.2.2.2.2.1[(Int.toNat (iW (iSub s.2.2.2.1 (1:Int))))]?) fun y6=>(Option.bind (lat s.2.2.2.2.1 s.2.2.2.1) fun _=>(Option.bind (s.2.2.2.2.1[(Int.toNat s.2.2.2.1)]?) fun y8=>(Option.bind (lat s.2.2.2.2.1 s.2.2.2.1) fun _=>(Option.bind (s.2.2.2.2.1[(Int.toNat s.2.2.2.1)]?) fun _=>(Option.bind (lat (List.set s.2.2.2.2.1 (Int.toNat s.2.2.2.1) y6) (iW (iSub s.2.2.2.1 (1:Int)))) fun _=>(Option.bind ((List.set s.2.2.2.2.1 (Int.toNat s.2.2.2.1) y6)[(Int.toNat (iW (iSub s.2.2.2.1 (1:Int))))]?) fun _=>(rec (s.1,(s.2.1,(s.2.2.1,((iW (iSub s.2.2.2.1 (1:Int))),((List.set (List.set s.2.2.2.2.1 (Int.toNat s.2.2.2.1) y6) (Int.toNat (iW (iSub s.2.2.2.1 (1:Int)))) y8),())))))))))))))) (some (s.1,(s.2.1,(s.2.2.1,s.2.2.2.2)))))))))) (some (s.1,(s.2.1,(s.2.2.1,s.2.2.2.2))))):=by kernel_rfl
theorem qb5(n:Nat)(rec)(s):qG n rec s=(cond (iLt s.2.2.1 s.2.1) (Option.bind (qn n (qbK n) (s.1,(s.2.1,(s.2.2.1,s.2.2)))) fun y=>(rec (y.1,(y.2.1,((iW (iAdd y.2.2.1 (1:Int))),y.2.2.2))))) (some s.2.2.2)):=by kernel_rfl
theorem qgJ(n:Nat)(x):qcC n x=(Option.bind (qn n (qG n) (x.1,(x.2.1,((iW (iAdd x.1 (1:Int))),x.2.2)))) fun y=>(some y)):=by kernel_rfl
theorem qhv(n:Nat)(g)(rec)(s):qfc n g rec s=(cond (iLe (iW (iSub s.2.1 s.1)) (12:Int)) (Option.bind (qcC n (s.1,(s.2.1,s.2.2.2.2.2))) fun y=>(some y)) (cond (iEq s.2.2.1 (0:Int)) none (cond (!s.2.2.2.1) none none))):=by kernel_rfl
theorem qhL(n:Nat)(g)(x):qfv n g x=(Option.bind (qn n (qfc n g) (x.1,(x.2.1,(x.2.2.1,(true,(true,x.2.2.2)))))) fun y=>(some y)):=by kernel_rfl
theorem qhw(n k:Nat)(x):qfw (qS n (k+1)) x=qfv n (qS n k) x:=by kernel_rfl
theorem qic(n:Nat)(x):qfU n x=qfw (qS n n) x:=by kernel_rfl
theorem qlN(n:Nat)(x):qg1 n x=(Option.bind (qk1 n ((IntKind.wrap .u64 (((List.length x.1):Nat):Int)),())) fun y=>(Option.bind (qfU n ((0:Int),((((List.length x.1):Nat):Int),(y.1,x)))) fun y1=>(some y1))):=by kernel_rfl
theorem qjx(n:Nat)(rec)(s):qfd n rec s=(cond (iLt s.2.2.2.1 s.2.2.1) (Option.bind (lat s.2.1 s.2.2.2.1) fun y=>(cond (iGe (iW (iMul (iW (iAdd s.2.2.2.1 (1:Int))) y)) s.1) (some (Sum.inr (true,()))) (rec (s.1,(s.2.1,(s.2.2.1,((iW (iAdd s.2.2.2.1 (1:Int))),()))))))) (some (Sum.inl ()))):=by kernel_rfl
theorem qoL(n:Nat)(x):qgj n x=(Option.bind (qeS n (x.1,())) fun y=>(Option.bind (qg1 n y) fun y1=>(Option.bind (qH n y1) fun y2=>(Option.bind (qn n (qfd n) (x.2.1,(y2.1,((((List.length y2.1):Nat):Int),((0:Int),()))))) fun y3=>(Sum.elim (fun _=>(some (false,()))) (fun b=>(some b)) y3))))):=by kernel_rfl
theorem qp3(n:Nat)(x):qog n x=(some (x.1.1,())):=by kernel_rfl
theorem qpB(n:Nat)(x):qnt n x=(some (x.1.2,())):=by kernel_rfl
theorem qeM(n:Nat)(rec)(s):qdD n rec s=(cond (iLt s.2.2.2.1 s.2.2.1) (Option.bind (lat s.2.1 s.2.2.2.1) fun y=>(Option.bind (qog n (y,())) fun y1=>(Option.bind (qu (Nat.ble (nAdd (List.length s.2.2.2.2.1) (1:Nat)) (17592186044416:Nat))) fun _=>(rec (((),()),(s.2.1,(s.2.2.1,((iW (iAdd s.2.2.2.1 (1:Int))),((List.append s.2.2.2.2.1 (y1.1::[])),()))))))))) (some s.2.2.2.2)):=by kernel_rfl
theorem qix(n:Nat)(x):qb0 n x=(Option.bind (qn n (qdD n) (((),()),(x.1,((((List.length x.1):Nat):Int),((0:Int),([],())))))) fun y=>(some y)):=by kernel_rfl
theorem qeA(n:Nat)(rec)(s):qdm n rec s=(cond (iLt s.2.2.2.1 s.2.2.1) (Option.bind (lat s.2.1 s.2.2.2.1) fun y=>(Option.bind (qnt n (y,())) fun y1=>(Option.bind (qu (Nat.ble (nAdd (List.length s.2.2.2.2.1) (1:Nat)) (17592186044416:Nat))) fun _=>(rec (((),()),(s.2.1,(s.2.2.1,((iW (iAdd s.2.2.2.1 (1:Int))),((List.append s.2.2.2.2.1 (y1.1::[])),()))))))))) (some s.2.2.2.2)):=by kernel_rfl
theorem qid(n:Nat)(x):qdP n x=(Option.bind (qn n (qdm n) (((),()),(x.1,((((List.length x.1):Nat):Int),((0:Int),([],())))))) fun y=>(some y)):=by kernel_rfl
theorem qkp(n:Nat)(x):qh2 n x=(Option.bind (qis n (x.1,((0:Int),((5000:Int),())))) fun y=>(some y)):=by kernel_rfl
theorem qfe(n:Nat)(x):qc4 n x=(Option.bind (qh2 n x) fun y=>(some ((!y.1),()))):=by kernel_rfl
theorem qV(n:Nat)(rec)(s):ql n rec s=(cond (iLt s.2.2.1 s.2.1) (Option.bind (lat s.1 s.2.2.1) fun y=>(Option.bind (qc4 n (y,())) fun y1=>(cond y1.1 (some (Sum.inr s.2.2)) (rec (s.1,(s.2.1,((iW (iAdd s.2.2.1 (1:Int))),()))))))) (some (Sum.inl ()))):=by kernel_rfl
theorem qcx(n:Nat)(x):qbj n x=(Option.bind (qn n (ql n) (x.1,((((List.length x.1):Nat):Int),((0:Int),())))) fun y=>(Sum.elim (fun _=>(some ((Int.negSucc (0:Nat)),()))) (fun b=>(some b)) y)):=by kernel_rfl
theorem qco(n:Nat)(x):qZ n x=(Option.bind (qbj n x) fun y=>(some ((iGe y.1 (0:Int)),()))):=by kernel_rfl
theorem qfz(n:Nat)(x):qdn n x=(Option.bind (qZ n (x.1,())) fun y=>(some ((!y.1),()))):=by kernel_rfl
theorem qld(n:Nat)(x):qcK n x=(cond (iGt (((List.length x.1):Nat):Int) (8:Int)) (some ((92:Int),())) (Option.bind (qdn n (x.1,(((),()),()))) fun y=>(cond (!y.1) (some ((92:Int),())) (cond (!x.2.1) (some ((1:Int),())) (some ((0:Int),())))))):=by kernel_rfl
theorem qoM(n:Nat)(x):qgk n x=(Option.bind (qeD n (x.2.1,((1:Int),((5000:Int),())))) fun y=>(Option.bind (qcK n (x.1,y)) fun y1=>(cond (iNe y1.1 (0:Int)) (some (false,(false,y1))) (Option.bind (qb0 n (x.1,(((),()),()))) fun y2=>(Option.bind (qgj n (y2.1,x.2)) fun y3=>(Option.bind (qdP n (x.1,(((),()),()))) fun y4=>(Option.bind (qgj n (y4.1,x.2)) fun y5=>(some (y3.1,(y5.1,((0:Int),()))))))))))):=by kernel_rfl
theorem qjy(n:Nat)(rec)(s):qiw n rec s=(cond (iLt s.2.2.2.2.1 s.2.2.2.1) (Option.bind (qe9 n (s.1,s.2.2.2.2)) fun y=>(Option.bind (qgj n (y.1,(s.2.1,()))) fun y1=>(cond (!y1.1) (rec (s.1,(s.2.1,((iMin s.2.2.1 (iW (iSub (iW (iSub (((List.length s.1):Nat):Int) (((List.length y.1):Nat):Int))) (1:Int)))),(s.2.2.2.1,((iW (iAdd s.2.2.2.2.1 (1:Int))),())))))) (rec (s.1,(s.2.1,(s.2.2.1,(s.2.2.2.1,((iW (iAdd s.2.2.2.2.1 (1:Int))),()))))))))) (some (s.2.2.1,()))):=by kernel_rfl
theorem qoN(n:Nat)(x):qhG n x=(Option.bind (qu (iSh .i64 (((List.length x.1):Nat):Int))) fun _=>(Option.bind (qn n (qiw n) (x.1,(x.2.1,((((List.length x.1):Nat):Int),((iW (iShl (1:Int) (((List.length x.1):Nat):Int))),((0:Int),())))))) fun y1=>(some y1))):=by kernel_rfl
theorem qoO(n:Nat)(x):qgl n x=(Option.bind (qeD n (x.2.1,((1:Int),((5000:Int),())))) fun y=>(Option.bind (qcK n (x.1,y)) fun y1=>(cond (iNe y1.1 (0:Int)) (some ((0:Int),y1)) (Option.bind (qb0 n (x.1,(((),()),()))) fun y2=>(Option.bind (qhG n (y2.1,x.2)) fun y3=>(some (y3.1,((0:Int),())))))))):=by kernel_rfl
theorem qf1(n:Nat)(rec)(s):qdo n rec s=(cond (iLt s.2.2.2.1 s.2.2.1) (Option.bind (lat s.2.1 s.2.2.2.1) fun y=>(Option.bind (qu (iSh .i64 s.2.2.2.1)) fun _=>(cond (iEq (bits .and .i64 (iShr s.1 s.2.2.2.1) (1:Int)) (1:Int)) (Option.bind (qu (Nat.ble (nAdd (List.length s.2.2.2.2.1) (1:Nat)) (8796093022208:Nat))) fun _=>(rec (s.1,(s.2.1,(s.2.2.1,((iW (iAdd s.2.2.2.1 (1:Int))),((List.append s.2.2.2.2.1 (y::[])),()))))))) (rec (s.1,(s.2.1,(s.2.2.1,((iW (iAdd s.2.2.2.1 (1:Int))),s.2.2.2.2)))))))) (some s.2.2.2.2)):=by kernel_rfl
theorem qjZ(n:Nat)(x):qfn n x=(Option.bind (qn n (qdo n) (x.2.1,(x.1,((((List.length x.1):Nat):Int),((0:Int),([],())))))) fun y=>(some y)):=by kernel_rfl
theorem qmq(n:Nat)(x):qes n x=(Option.bind (qfn n (x.2.1,(x.1,()))) fun y=>(Option.bind (qb0 n (y.1,(((),()),()))) fun y1=>(Option.bind (qhG n (y1.1,(x.2.2.1,()))) fun y2=>(some ((iGe y2.1 x.2.2.2.1),x.2))))):=by kernel_rfl
theorem qei(n:Nat)(rec)(s):qb3 n rec s=(cond (iLt s.2.2.2.2.1 s.2.2.2.1) (Option.bind (qe9 n (s.1,(s.2.2.2.2.1,()))) fun y=>(cond s.2.2.1 (cond (iGt (((List.length y.1):Nat):Int) (((List.length s.2.1):Nat):Int)) (rec (s.1,(s.2.1,(s.2.2.1,(s.2.2.2.1,((iW (iAdd s.2.2.2.2.1 (1:Int))),s.2.2.2.2.2)))))) (cond (iEq (((List.length y.1):Nat):Int) (((List.length s.2.1):Nat):Int)) (Option.bind (qgb n (y.1,(s.2.1,()))) fun y1=>(cond (iGe y1.1 (0:Int)) (rec (s.1,(s.2.1,(s.2.2.1,(s.2.2.2.1,((iW (iAdd s.2.2.2.2.1 (1:Int))),s.2.2.2.2.2)))))) (Option.bind (qes n s.2.2.2.2) fun y2=>(cond y2.1 (rec (s.1,(y.1,(true,(s.2.2.2.1,((iW (iAdd s.2.2.2.2.1 (1:Int))),y2.2)))))) (rec (s.1,(s.2.1,(s.2.2.1,(s.2.2.2.1,((iW (iAdd s.2.2.2.2.1 (1:Int))),y2.2)))))))))) (Option.bind (qes n s.2.2.2.2) fun y1=>(cond y1.1 (rec (s.1,(y.1,(true,(s.2.2.2.1,((iW (iAdd s.2.2.2.2.1 (1:Int))),y1.2)))))) (rec (s.1,(s.2.1,(s.2.2.1,(s.2.2.2.1,((iW (iAdd s.2.2.2.2.1 (1:Int))),y1.2)))))))))) (Option.bind (qes n s.2.2.2.2) fun y1=>(cond y1.1 (rec (s.1,(y.1,(true,(s.2.2.2.1,((iW (iAdd s.2.2.2.2.1 (1:Int))),y1.2)))))) (rec (s.1,(s.2.1,(s.2.2.1,(s.2.2.2.1,((iW (iAdd s.2.2.2.2.1 (1:Int))),y1.2)))))))))) (some (s.2.1,(s.2.2.1,s.2.2.2.2.2)))):=by kernel_rfl
theorem qhx(n:Nat)(x):qci n x=(Option.bind (qu (iMk x.1)) fun _=>(Option.bind (qu (iEq x.1 x.1)) fun _=>(Option.bind (qn n (qo n) (x.1,((((List.length (List.replicate (x.1).toNat (0:Int))):Nat):Int),((0:Int),(x.2.1,(x.2.2.1,(x.2.2.2.1,((List.replicate (x.1).toNat (0:Int)),())))))))) fun y2=>(Option.bind (qu (iSh .i64 y2.1)) fun _=>(Option.bind (qn n (qb3 n) (y2.2.2.2.2.1,([],(false,((iW (iShl (1:Int) y2.1)),((0:Int),(y2.2.1,(y2.2.2.1,(y2.2.2.2.1,()))))))))) fun y4=>(some y4)))))):=by kernel_rfl
theorem qn0(n:Nat)(x):qfV n x=(Option.bind (qeD n (x.2.1,((1:Int),((5000:Int),())))) fun y=>(cond y.1 (Option.bind (qeD n (x.2.2.1,((0:Int),((8:Int),())))) fun y1=>(Option.bind (qcK n (x.1,y1)) fun y2=>(cond (iNe y2.1 (0:Int)) (some ([],y2)) (Option.bind (qci n ((((List.length x.1):Nat):Int),x)) fun y3=>(cond (!y3.2.1) (some ([],((3:Int),()))) (some (y3.1,((0:Int),())))))))) (Option.bind (qcK n (x.1,(false,()))) fun y1=>(cond (iNe y1.1 (0:Int)) (some ([],y1)) (Option.bind (qci n ((((List.length x.1):Nat):Int),x)) fun y2=>(cond (!y2.2.1) (some ([],((3:Int),()))) (some (y2.1,((0:Int),()))))))))):=by kernel_rfl
set_option maxHeartbeats 1000000
variable {α:Type}
theorem qxR{a b:Int}(h:a=b):iNe a b=false:=by simp[iNe,h]
theorem qoH(n:Nat)(x:Int):qdk n (x,())=some (false,()):=by rw[qju];simp only[qxR rfl]
theorem qwZ(n:Nat)(x y:Int):qi5 n (x,(y,()))=some (decide (x<y),()):=by
 rw[qnY]
 simp only[qoH,Option.bind_some,cond_false]
theorem app0{α:Type}(A:List α)(y x:α)(m:List α):(A++y::x::m)[A.length]?=some y:=by simp
theorem app1{α:Type}(A:List α)(y x:α)(m:List α):(A++y::x::m)[A.length+1]?=some x:=by simp
theorem set1{α:Type}(A:List α)(y x z:α)(m:List α):(A++y::x::m).set (A.length+1) z=A++y::z::m:=by simp
theorem set0{α:Type}(A:List α)(y x z:α)(m:List α):(A++y::x::m).set A.length z=A++z::x::m:=by simp
theorem qp0{k:Nat}(h:k<9223372036854775807):iW (iSub ((k+1:Nat):Int) 1)=(k:Int):=by
 rw[qim (by unfold iSub;omega) (by unfold iSub;omega)];unfold iSub;omega
theorem qvW(n:Nat):∀k:Nat,k≤12→∃r,qA n ((IntKind.wrap .u64 (k:Int)),())=some r:=by
 intro k hk
 match k,hk with
 | 0,_=>exact ⟨_,(by kernel_rfl:qA n ((IntKind.wrap .u64 ((0:Nat):Int)),())=some (0,()))⟩
 | 1,_=>exact ⟨_,(by kernel_rfl:qA n ((IntKind.wrap .u64 ((1:Nat):Int)),())=some (1,()))⟩
 | 2,_=>exact ⟨_,(by kernel_rfl:qA n ((IntKind.wrap .u64 ((2:Nat):Int)),())=some (2,()))⟩
 | 3,_=>exact ⟨_,(by kernel_rfl:qA n ((IntKind.wrap .u64 ((3:Nat):Int)),())=some (2,()))⟩
 | 4,_=>exact ⟨_,(by kernel_rfl:qA n ((IntKind.wrap .u64 ((4:Nat):Int)),())=some (3,()))⟩
 | 5,_=>exact ⟨_,(by kernel_rfl:qA n ((IntKind.wrap .u64 ((5:Nat):Int)),())=some (3,()))⟩
 | 6,_=>exact ⟨_,(by kernel_rfl:qA n ((IntKind.wrap .u64 ((6:Nat):Int)),())=some (3,()))⟩
 | 7,_=>exact ⟨_,(by kernel_rfl:qA n ((IntKind.wrap .u64 ((7:Nat):Int)),())=some (3,()))⟩
 | 8,_=>exact ⟨_,(by kernel_rfl:qA n ((IntKind.wrap .u64 ((8:Nat):Int)),())=some (4,()))⟩
 | 9,_=>exact ⟨_,(by kernel_rfl:qA n ((IntKind.wrap .u64 ((9:Nat):Int)),())=some (4,()))⟩
 | 10,_=>exact ⟨_,(by kernel_rfl:qA n ((IntKind.wrap .u64 ((10:Nat):Int)),())=some (4,()))⟩
 | 11,_=>exact ⟨_,(by kernel_rfl:qA n ((IntKind.wrap .u64 ((11:Nat):Int)),())=some (4,()))⟩
 | 12,_=>exact ⟨_,(by kernel_rfl:qA n ((IntKind.wrap .u64 ((12:Nat):Int)),())=some (4,()))⟩
theorem qvX{k:Nat}:iGt ((k+1:Nat):Int) 0=true:=by unfold iGt;exact decide_eq_true (by omega)
theorem qtA{k:Nat}:Int.toNat (k:Int)=k:=by simp
theorem w12{k:Nat}(h:k≤12):iLe (iW (iSub (k:Int) 0)) 12=true:=by
 rw[qim (by unfold iSub;omega) (by unfold iSub;omega)];unfold iLe iSub;exact decide_eq_true (by omega)
theorem qxS(n N i:Nat)(x:Int)(hN:N≤1000)(hn:2000≤n)(r m:List Int)(hr:r.length≤N):qn n (qbK n) ((0:Int),((N:Int),((i:Int),((r.length:Int),((r.reverse++x::m),())))))=some ((0:Int),((N:Int),((i:Int),(((insL (fun x y=>decide (x<y)) x r).reverse++m),())))):=by
 exact qsR (step:=qbK n) (fun x y=>decide (x<y)) (fun j d=>((0:Int),((N:Int),((i:Int),((j:Int),(d,())))))) (fun d=>some ((0:Int),((N:Int),((i:Int),(d,()))))) x N (fun rec A y m hA=>by
  rw[qdz]
  have hj:A.length<9223372036854775807:=by omega
  simp only[qvX,cond_true,qi0,app0,app1,Option.bind_some,qp0 hj,qtA,qwZ,set1,set0]) (fun rec d=>by
  rw[qdz]
  rfl) r m n hr (by omega)
theorem qxn(n:Nat)(l:List Int)(hl:l.length≤1000)(hn:2000≤n):qcC n ((0:Int),((l.length:Int),(l,())))=some (qhb (fun x y=>decide (x<y)) l,()):=by
 rw[qgJ]
 cases l with
 | nil =>
  obtain ⟨n',rfl⟩:∃m,n=m+1:=⟨n-1,by omega⟩
  rw[qx,qb5]
  rfl
 | cons a l =>
  obtain ⟨N,hN⟩:∃N,N=(a::l).length:=⟨_,rfl⟩
  have hl':l.length+1=N:=by rw[hN];rfl
  have h1:∀rec (r:List Int) x m,r.length+1+m.length=N→qG n rec ((0:Int),((N:Int),((r.length:Int),((r.reverse++x::m),()))))=rec ((0:Int),((N:Int),(((r.length+1:Nat):Int),(((insL (fun x y=>decide (x<y)) x r).reverse++m),())))):=fun rec r x m hm=>by
   rw[qb5]
   simp only[qwN (show r.length<N by omega),cond_true,qxS n N r.length x (by omega) hn r m (by omega),Option.bind_some,qbT (show r.length<9223372036854775807 by omega)]
  have h0:∀rec (d:List Int),qG n rec ((0:Int),((N:Int),((N:Int),(d,()))))=some (d,()):=fun rec d=>by
   rw[qb5]
   simp only[qwO,cond_false]
  have go:∀(l2 r:List Int) (n':Nat),r.length+l2.length=N→l2.length<n'→qn n' (qG n) ((0:Int),((N:Int),((r.length:Int),((r.reverse++l2),()))))=some ((qho (fun x y=>decide (x<y)) r l2).reverse,()):=by
   intro l2
   induction l2 with
   | nil =>
    intro r n' hr hn'
    obtain ⟨n',rfl⟩:∃m,n'=m+1:=⟨n'-1,by omega⟩
    have hr':r.length=N:=by simpa using hr
    rw[qx,List.append_nil,hr',h0]
    rfl
   | cons x l2 ih =>
    intro r n' hr hn'
    obtain ⟨n',rfl⟩:∃m,n'=m+1:=⟨n'-1,by omega⟩
    simp only[List.length_cons] at hr hn'
    rw[qx,h1 _ r x l2 (by omega),qho]
    have:=ih (insL (fun x y=>decide (x<y)) x r) n' (by rw[qoB];omega) (by omega)
    rw[qoB] at this
    exact this
  have h3:=go l [a] n (by simp;omega) (by omega)
  rw[← hN]
  have e1:iW (iAdd (0:Int) 1)=((1:Nat):Int):=qbT (k:=0) (by omega)
  simp only[e1]
  have e2:(qho (fun x y=>decide (x<y)) [a] l).reverse=qhb (fun x y=>decide (x<y)) (a::l):=rfl
  rw[e2] at h3
  show Option.bind (qn n (qG n) ((0:Int),((N:Int),(((([a]:List Int).length:Nat):Int),((([a]:List Int).reverse++l),()))))) _=_
  rw[h3]
  rfl
theorem qw0(n:Nat)(l:List Int)(hl:l.length≤12)(hn:2000≤n):qg1 n (l,())=some (qhb (fun x y=>decide (x<y)) l,()):=by
 rw[qlN,qnu]
 obtain ⟨rr,hrr⟩:=qvW n l.length hl
 simp only[hrr,Option.bind_some]
 rw[qic]
 obtain ⟨n',rfl⟩:∃m,n=m+1:=⟨n-1,by omega⟩
 rw[qhw,qhL,qx,qhv]
 simp only[w12 hl,cond_true,qxn (n'+1) l (by omega) hn,Option.bind_some]
theorem qoh(lt:α→α→Bool)(key:α→Int)(x:α):∀(r:List α),(∀y,y∈r→(lt x y=true→key x≤key y)∧(lt x y=false→key y≤key x))→r.Pairwise (fun a b=>key b≤key a)→(insL lt x r).Pairwise (fun a b=>key b≤key a)
 | [],_,_=>by simp[insL]
 | y::r,h,hr=>by
  rw[List.pairwise_cons] at hr
  unfold insL
  cases hl:lt x y with
  | true =>
   simp only[cond_true]
   rw[List.pairwise_cons]
   refine ⟨fun z hz=>?_,qoh lt key x r (fun z hz=>h z (List.mem_cons_of_mem _ hz)) hr.2⟩
   rcases List.mem_cons.1 ((qkX lt x r).mem_iff.1 hz) with rfl | hz
   ·exact (h y List.mem_cons_self).1 hl
   ·exact hr.1 z hz
  | false =>
   simp only[cond_false]
   rw[List.pairwise_cons,List.pairwise_cons]
   have hy:=(h y List.mem_cons_self).2 hl
   exact ⟨fun z hz=>(by rcases List.mem_cons.1 hz with rfl | hz;exact hy;exact Int.le_trans (hr.1 z hz) hy),hr⟩
theorem qmB(lt:α→α→Bool)(key:α→Int):∀(l r:List α),(∀x y,x∈r++l→y∈r++l→(lt x y=true→key x≤key y)∧(lt x y=false→key y≤key x))→r.Pairwise (fun a b=>key b≤key a)→(qho lt r l).Pairwise (fun a b=>key b≤key a)
 | [],r,_,hr=>hr
 | x::l,r,h,hr=>by
  rw[qho]
  have hm:∀a,a∈insL lt x r++l→a∈r++x::l:=fun a ha=>by
   rcases List.mem_append.1 ha with ha | ha
   ·rcases List.mem_cons.1 ((qkX lt x r).mem_iff.1 ha) with rfl | ha<;>simp[*]
   ·simp[ha]
  exact qmB lt key l _ (fun a b ha hb=>h a b (hm a ha) (hm b hb)) (qoh lt key x r (fun y hy=>h x y (by simp) (by simp[hy])) hr)
theorem qr0(lt:α→α→Bool)(key:α→Int)(l:List α)(h:∀x y,x∈l→y∈l→(lt x y=true→key x≤key y)∧(lt x y=false→key y≤key x)):(qhb lt l).Pairwise (fun a b=>key a≤key b):=by
 unfold qhb
 rw[List.pairwise_reverse]
 exact qmB lt key l [] (by simpa using h) List.Pairwise.nil
end
end Go.Proofs.YtbdockhccdkdiaaGreat
