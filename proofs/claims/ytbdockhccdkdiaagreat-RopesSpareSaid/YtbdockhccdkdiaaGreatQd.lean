/- Texts DqM, Dh1 in one. -/
import Derived.Test.YtbdockhccdkdiaaGreatNh
import Derived.Test.YtbdockhccdkdiaaGreatQc
import Derived.Test.YtbdockhccdkdiaaGreatQa
/- printed by gen_eqf.py: models at plain types, and what they are, by computing. -/
set_option linter.constructorNameAsVariable false
set_option linter.unusedSimpArgs false
set_option linter.unusedVariables false
set_option linter.unusedSectionVars false
namespace Go.Proofs.YtbdockhccdkdiaaGreat
open Go Go.Proofs Go.RowKit
set_option maxRecDepth 100000
noncomputable section
def qlc(n:Nat)(x:(Int×Unit)):(Option (Int×Unit)):=(qla n).M x
def qbK(n:Nat)(rec:((Int×(Int×(Int×(Int×((List Int)×Unit)))))→(Option (Int×(Int×(Int×((List Int)×Unit)))))))(s:(Int×(Int×(Int×(Int×((List Int)×Unit)))))):(Option (Int×(Int×(Int×((List Int)×Unit))))):=(qem n).step rec s
def qK(n:Nat)(rec:((Int×(Int×(Int×((List Int)×Unit))))→(Option ((List Int)×Unit))))(s:(Int×(Int×(Int×((List Int)×Unit))))):(Option ((List Int)×Unit)):=(qen n).step rec s
def qcD(n:Nat)(x:(Int×(Int×((List Int)×Unit)))):(Option ((List Int)×Unit)):=(qex n).M x
def qfk(n:Nat)(g:qk)(rec:((Int×(Int×(Int×(Bool×(Bool×((List Int)×Unit))))))→(Option ((List Int)×Unit))))(s:(Int×(Int×(Int×(Bool×(Bool×((List Int)×Unit))))))):(Option ((List Int)×Unit)):=qfy n g rec s
def qfC(n:Nat)(g:qk)(x:(Int×(Int×(Int×((List Int)×Unit))))):(Option ((List Int)×Unit)):=qdM n g x
def qfD(g:qk)(x:(Int×(Int×(Int×((List Int)×Unit))))):(Option ((List Int)×Unit)):=g.1 x
def qf4(n:Nat)(x:(Int×(Int×(Int×((List Int)×Unit))))):(Option ((List Int)×Unit)):=qf1 n x
def qg9(n:Nat)(x:((List Int)×Unit)):(Option ((List Int)×Unit)):=(qjz n).M x
def qL(n:Nat)(x:((List Int)×Unit)):(Option ((List Int)×Unit)):=(qh9 n).M x
def qfl(n:Nat)(rec:((Int×((List Int)×(Int×(Int×Unit))))→(Option (Unit⊕(Bool×Unit)))))(s:(Int×((List Int)×(Int×(Int×Unit))))):(Option (Unit⊕(Bool×Unit))):=(qlR n).step rec s
def qgt(n:Nat)(x:((List Int)×(Int×Unit))):(Option (Bool×Unit)):=(qjJ n).M x
def qoo(n:Nat)(x:((Int×Int)×Unit)):(Option (Int×Unit)):=(qon n).M x
def qnC(n:Nat)(x:((Int×Int)×Unit)):(Option (Int×Unit)):=(qnz n).M x
def qdN(n:Nat)(rec:(((Unit×Unit)×((List (Int×Int))×(Int×(Int×((List Int)×Unit)))))→(Option ((List Int)×Unit))))(s:((Unit×Unit)×((List (Int×Int))×(Int×(Int×((List Int)×Unit)))))):(Option ((List Int)×Unit)):=(qf3 n).step rec s
def qb0(n:Nat)(x:((List (Int×Int))×((Unit×Unit)×Unit))):(Option ((List Int)×Unit)):=(qcH n).M x
def qdB(n:Nat)(rec:(((Unit×Unit)×((List (Int×Int))×(Int×(Int×((List Int)×Unit)))))→(Option ((List Int)×Unit))))(s:((Unit×Unit)×((List (Int×Int))×(Int×(Int×((List Int)×Unit)))))):(Option ((List Int)×Unit)):=(qfB n).step rec s
def qdZ(n:Nat)(x:((List (Int×Int))×((Unit×Unit)×Unit))):(Option ((List Int)×Unit)):=(qcx n).M x
def qia(n:Nat)(x:((Int×Int)×Unit)):(Option (Bool×Unit)):=(qdd n).M x
def qde(n:Nat)(x:((Int×Int)×Unit)):(Option (Bool×Unit)):=(qbW n).M x
def ql(n:Nat)(rec:(((List (Int×Int))×(Int×(Int×Unit)))→(Option (Unit⊕(Int×Unit)))))(s:((List (Int×Int))×(Int×(Int×Unit)))):(Option (Unit⊕(Int×Unit))):=(qbf n).step rec s
def qbl(n:Nat)(x:((List (Int×Int))×Unit)):(Option (Int×Unit)):=(qbk n).M x
def qba(n:Nat)(x:((List (Int×Int))×Unit)):(Option (Bool×Unit)):=(q9 n).M x
def qdC(n:Nat)(x:((List (Int×Int))×((Unit×Unit)×Unit))):(Option (Bool×Unit)):=(qdA n).M x
def qcO(n:Nat)(x:((List (Int×Int))×(Bool×Unit))):(Option (Int×Unit)):=(qeZ n).M x
def qgu(n:Nat)(x:((List (Int×Int))×(Int×Unit))):(Option (Bool×(Bool×(Int×Unit)))):=(qjK n).M x
def qiz(n:Nat)(rec:(((List Int)×(Int×(Int×(Int×(Int×Unit)))))→(Option (Int×Unit))))(s:((List Int)×(Int×(Int×(Int×(Int×Unit)))))):(Option (Int×Unit)):=(qlT n).step rec s
def qhL(n:Nat)(x:((List Int)×(Int×Unit))):(Option (Int×Unit)):=(qjL n).M x
def qdI(n:Nat)(x:((List (Int×Int))×(Int×Unit))):(Option (Int×(Int×Unit))):=(qmI n).M x
def qdD(n:Nat)(rec:((Int×((List (Int×Int))×(Int×(Int×((List (Int×Int))×Unit)))))→(Option ((List (Int×Int))×Unit))))(s:(Int×((List (Int×Int))×(Int×(Int×((List (Int×Int))×Unit)))))):(Option ((List (Int×Int))×Unit)):=(qhr n).step rec s
def qfx(n:Nat)(x:((List (Int×Int))×(Int×Unit))):(Option ((List (Int×Int))×Unit)):=(qhD n).M x
def qey(n:Nat)(x:(Int×((List (Int×Int))×(Int×(Int×Unit))))):(Option (Bool×((List (Int×Int))×(Int×(Int×Unit))))):=(qjR n).M x
def qp(n:Nat)(rec:((Int×(Int×(Int×((List (Int×Int))×(Int×(Int×((List Int)×Unit)))))))→(Option (Int×((List (Int×Int))×(Int×(Int×((List Int)×Unit))))))))(s:(Int×(Int×(Int×((List (Int×Int))×(Int×(Int×((List Int)×Unit)))))))):(Option (Int×((List (Int×Int))×(Int×(Int×((List Int)×Unit)))))):=(qe3 n).step rec s
def qb3(n:Nat)(rec:(((List Int)×((List Int)×(Bool×(Int×(Int×((List (Int×Int))×(Int×(Int×Unit))))))))→(Option ((List Int)×(Bool×((List (Int×Int))×(Int×(Int×Unit))))))))(s:((List Int)×((List Int)×(Bool×(Int×(Int×((List (Int×Int))×(Int×(Int×Unit))))))))):(Option ((List Int)×(Bool×((List (Int×Int))×(Int×(Int×Unit)))))):=(qe4 n).step rec s
def qcj(n:Nat)(x:(Int×((List (Int×Int))×(Int×(Int×Unit))))):(Option ((List Int)×(Bool×((List (Int×Int))×(Int×(Int×Unit)))))):=(qfj n).M x
def qje(n:Nat)(x:((List (Int×Int))×(Int×(Int×Unit)))):(Option ((List Int)×(Int×Unit))):=(qlU n).M x
def qB(n:Nat)(x:(Int×Unit)):(Option (Int×Unit)):=(qjQ n).M x
def qe0(n:Nat)(x:((List Int)×Unit)):(Option ((List Int)×Unit)):=qmT n x
theorem qnD(n:Nat)(x):qlc n x=(Option.bind (qB n x) fun y=>(some y)):=by kernel_rfl
theorem qdJ(n:Nat)(rec)(s):qbK n rec s=(cond (iGt s.2.2.2.1 s.1) (Option.bind (lat s.2.2.2.2.1 s.2.2.2.1) fun _=>(Option.bind (s.2.2.2.2.1[(Int.toNat s.2.2.2.1)]?) fun y1=>(Option.bind (lat s.2.2.2.2.1 (iW (iSub s.2.2.2.1 (1:Int)))) fun _=>(Option.bind (s.2.2.2.2.1[(Int.toNat (iW (iSub s.2.2.2.1 (1:Int))))]?) fun y3=>(Option.bind (qi8 n (y1,(y3,()))) fun y4=>(cond y4.1 (Option.bind (lat s.2.2.2.2.1 (iW (iSub s.2.2.2.1 (1:Int)))) fun _=>(Option.bind (s.2.2.2.2.1[(Int.toNat (iW (iSub s.2.2.2.1 (1:Int))))]?) fun y6=>(Option.bind (lat s.2.2.2.2.1 s.2.2.2.1) fun _=>(Option.bind (s.2.2.2.2.1[(Int.toNat s.2.2.2.1)]?) fun y8=>(Option.bind (lat s.2.2.2.2.1 s.2.2.2.1) fun _=>(Option.bind (s.2.2.2.2.1[(Int.toNat s.2.2.2.1)]?) fun _=>(Option.bind (lat (List.set s.2.2.2.2.1 (Int.toNat s.2.2.2.1) y6) (iW (iSub s.2.2.2.1 (1:Int)))) fun _=>(Option.bind ((List.set s.2.2.2.2.1 (Int.toNat s.2.2.2.1) y6)[(Int.toNat (iW (iSub s.2.2.2.1 (1:Int))))]?) fun _=>(rec (s.1,(s.2.1,(s.2.2.1,((iW (iSub s.2.2.2.1 (1:Int))),((List.set (List.set s.2.2.2.2.1 (Int.toNat s.2.2.2.1) y6) (Int.toNat (iW (iSub s.2.2.2.1 (1:Int)))) y8),())))))))))))))) (some (s.1,(s.2.1,(s.2.2.1,s.2.2.2.2)))))))))) (some (s.1,(s.2.1,(s.2.2.1,s.2.2.2.2))))):=by kernel_rfl
theorem qb5(n:Nat)(rec)(s):qK n rec s=(cond (iLt s.2.2.1 s.2.1) (Option.bind (qn n (qbK n) (s.1,(s.2.1,(s.2.2.1,s.2.2)))) fun y=>(rec (y.1,(y.2.1,((iW (iAdd y.2.2.1 (1:Int))),y.2.2.2))))) (some s.2.2.2)):=by kernel_rfl
theorem qgR(n:Nat)(x):qcD n x=(Option.bind (qn n (qK n) (x.1,(x.2.1,((iW (iAdd x.1 (1:Int))),x.2.2)))) fun y=>(some y)):=by kernel_rfl
theorem qhE(n:Nat)(g)(rec)(s):qfk n g rec s=(cond (iLe (iW (iSub s.2.1 s.1)) (12:Int)) (Option.bind (qcD n (s.1,(s.2.1,s.2.2.2.2.2))) fun y=>(some y)) (cond (iEq s.2.2.1 (0:Int)) none (cond (!s.2.2.2.1) none none))):=by kernel_rfl
theorem qhQ(n:Nat)(g)(x):qfC n g x=(Option.bind (qn n (qfk n g) (x.1,(x.2.1,(x.2.2.1,(true,(true,x.2.2.2)))))) fun y=>(some y)):=by kernel_rfl
theorem qhF(n k:Nat)(x):qfD (qV n (k+1)) x=qfC n (qV n k) x:=by kernel_rfl
theorem qid(n:Nat)(x):qf4 n x=qfD (qV n n) x:=by kernel_rfl
theorem qlW(n:Nat)(x):qg9 n x=(Option.bind (qlc n ((IntKind.wrap .u64 (((List.length x.1):Nat):Int)),())) fun y=>(Option.bind (qf4 n ((0:Int),((((List.length x.1):Nat):Int),(y.1,x)))) fun y1=>(some y1))):=by kernel_rfl
theorem qjB(n:Nat)(rec)(s):qfl n rec s=(cond (iLt s.2.2.2.1 s.2.2.1) (Option.bind (lat s.2.1 s.2.2.2.1) fun y=>(cond (iGe (iW (iMul (iW (iAdd s.2.2.2.1 (1:Int))) y)) s.1) (some (Sum.inr (true,()))) (rec (s.1,(s.2.1,(s.2.2.1,((iW (iAdd s.2.2.2.1 (1:Int))),()))))))) (some (Sum.inl ()))):=by kernel_rfl
theorem qoS(n:Nat)(x):qgt n x=(Option.bind (qe0 n (x.1,())) fun y=>(Option.bind (qg9 n y) fun y1=>(Option.bind (qL n y1) fun y2=>(Option.bind (qn n (qfl n) (x.2.1,(y2.1,((((List.length y2.1):Nat):Int),((0:Int),()))))) fun y3=>(Sum.elim (fun _=>(some (false,()))) (fun b=>(some b)) y3))))):=by kernel_rfl
theorem qp7(n:Nat)(x):qoo n x=(some (x.1.1,())):=by kernel_rfl
theorem qpE(n:Nat)(x):qnC n x=(some (x.1.2,())):=by kernel_rfl
theorem qeR(n:Nat)(rec)(s):qdN n rec s=(cond (iLt s.2.2.2.1 s.2.2.1) (Option.bind (lat s.2.1 s.2.2.2.1) fun y=>(Option.bind (qoo n (y,())) fun y1=>(Option.bind (qH (Nat.ble (nAdd (List.length s.2.2.2.2.1) (1:Nat)) (17592186044416:Nat))) fun _=>(rec (((),()),(s.2.1,(s.2.2.1,((iW (iAdd s.2.2.2.1 (1:Int))),((List.append s.2.2.2.2.1 (y1.1::[])),()))))))))) (some s.2.2.2.2)):=by kernel_rfl
theorem qiA(n:Nat)(x):qb0 n x=(Option.bind (qn n (qdN n) (((),()),(x.1,((((List.length x.1):Nat):Int),((0:Int),([],())))))) fun y=>(some y)):=by kernel_rfl
theorem qeI(n:Nat)(rec)(s):qdB n rec s=(cond (iLt s.2.2.2.1 s.2.2.1) (Option.bind (lat s.2.1 s.2.2.2.1) fun y=>(Option.bind (qnC n (y,())) fun y1=>(Option.bind (qH (Nat.ble (nAdd (List.length s.2.2.2.2.1) (1:Nat)) (17592186044416:Nat))) fun _=>(rec (((),()),(s.2.1,(s.2.2.1,((iW (iAdd s.2.2.2.1 (1:Int))),((List.append s.2.2.2.2.1 (y1.1::[])),()))))))))) (some s.2.2.2.2)):=by kernel_rfl
theorem qie(n:Nat)(x):qdZ n x=(Option.bind (qn n (qdB n) (((),()),(x.1,((((List.length x.1):Nat):Int),((0:Int),([],())))))) fun y=>(some y)):=by kernel_rfl
theorem qkG(n:Nat)(x):qia n x=(Option.bind (qix n (x.1,((0:Int),((5000:Int),())))) fun y=>(some y)):=by kernel_rfl
theorem qfm(n:Nat)(x):qde n x=(Option.bind (qia n x) fun y=>(some ((!y.1),()))):=by kernel_rfl
theorem qY(n:Nat)(rec)(s):ql n rec s=(cond (iLt s.2.2.1 s.2.1) (Option.bind (lat s.1 s.2.2.1) fun y=>(Option.bind (qde n (y,())) fun y1=>(cond y1.1 (some (Sum.inr s.2.2)) (rec (s.1,(s.2.1,((iW (iAdd s.2.2.1 (1:Int))),()))))))) (some (Sum.inl ()))):=by kernel_rfl
theorem qcy(n:Nat)(x):qbl n x=(Option.bind (qn n (ql n) (x.1,((((List.length x.1):Nat):Int),((0:Int),())))) fun y=>(Sum.elim (fun _=>(some ((Int.negSucc (0:Nat)),()))) (fun b=>(some b)) y)):=by kernel_rfl
theorem qcq(n:Nat)(x):qba n x=(Option.bind (qbl n x) fun y=>(some ((iGe y.1 (0:Int)),()))):=by kernel_rfl
theorem qfH(n:Nat)(x):qdC n x=(Option.bind (qba n (x.1,())) fun y=>(some ((!y.1),()))):=by kernel_rfl
theorem qlo(n:Nat)(x):qcO n x=(cond (iGt (((List.length x.1):Nat):Int) (8:Int)) (some ((92:Int),())) (Option.bind (qdC n (x.1,(((),()),()))) fun y=>(cond (!y.1) (some ((92:Int),())) (cond (!x.2.1) (some ((1:Int),())) (some ((0:Int),())))))):=by kernel_rfl
theorem qoT(n:Nat)(x):qgu n x=(Option.bind (qeL n (x.2.1,((1:Int),((5000:Int),())))) fun y=>(Option.bind (qcO n (x.1,y)) fun y1=>(cond (iNe y1.1 (0:Int)) (some (false,(false,y1))) (Option.bind (qb0 n (x.1,(((),()),()))) fun y2=>(Option.bind (qgt n (y2.1,x.2)) fun y3=>(Option.bind (qdZ n (x.1,(((),()),()))) fun y4=>(Option.bind (qgt n (y4.1,x.2)) fun y5=>(some (y3.1,(y5.1,((0:Int),()))))))))))):=by kernel_rfl
theorem qjC(n:Nat)(rec)(s):qiz n rec s=(cond (iLt s.2.2.2.2.1 s.2.2.2.1) (Option.bind (qfh n (s.1,s.2.2.2.2)) fun y=>(Option.bind (qgt n (y.1,(s.2.1,()))) fun y1=>(cond (!y1.1) (rec (s.1,(s.2.1,((iMin s.2.2.1 (iW (iSub (iW (iSub (((List.length s.1):Nat):Int) (((List.length y.1):Nat):Int))) (1:Int)))),(s.2.2.2.1,((iW (iAdd s.2.2.2.2.1 (1:Int))),())))))) (rec (s.1,(s.2.1,(s.2.2.1,(s.2.2.2.1,((iW (iAdd s.2.2.2.2.1 (1:Int))),()))))))))) (some (s.2.2.1,()))):=by kernel_rfl
theorem qoU(n:Nat)(x):qhL n x=(Option.bind (qH (iSh .i64 (((List.length x.1):Nat):Int))) fun _=>(Option.bind (qn n (qiz n) (x.1,(x.2.1,((((List.length x.1):Nat):Int),((iW (iShl (1:Int) (((List.length x.1):Nat):Int))),((0:Int),())))))) fun y1=>(some y1))):=by kernel_rfl
theorem qoV(n:Nat)(x):qdI n x=(Option.bind (qeL n (x.2.1,((1:Int),((5000:Int),())))) fun y=>(Option.bind (qcO n (x.1,y)) fun y1=>(cond (iNe y1.1 (0:Int)) (some ((0:Int),y1)) (Option.bind (qb0 n (x.1,(((),()),()))) fun y2=>(Option.bind (qhL n (y2.1,x.2)) fun y3=>(some (y3.1,((0:Int),())))))))):=by kernel_rfl
theorem qga(n:Nat)(rec)(s):qdD n rec s=(cond (iLt s.2.2.2.1 s.2.2.1) (Option.bind (lat s.2.1 s.2.2.2.1) fun y=>(Option.bind (qH (iSh .i64 s.2.2.2.1)) fun _=>(cond (iEq (bits .and .i64 (iShr s.1 s.2.2.2.1) (1:Int)) (1:Int)) (Option.bind (qH (Nat.ble (nAdd (List.length s.2.2.2.2.1) (1:Nat)) (8796093022208:Nat))) fun _=>(rec (s.1,(s.2.1,(s.2.2.1,((iW (iAdd s.2.2.2.1 (1:Int))),((List.append s.2.2.2.2.1 (y::[])),()))))))) (rec (s.1,(s.2.1,(s.2.2.1,((iW (iAdd s.2.2.2.1 (1:Int))),s.2.2.2.2)))))))) (some s.2.2.2.2)):=by kernel_rfl
theorem qj9(n:Nat)(x):qfx n x=(Option.bind (qn n (qdD n) (x.2.1,(x.1,((((List.length x.1):Nat):Int),((0:Int),([],())))))) fun y=>(some y)):=by kernel_rfl
theorem qmy(n:Nat)(x):qey n x=(Option.bind (qfx n (x.2.1,(x.1,()))) fun y=>(Option.bind (qb0 n (y.1,(((),()),()))) fun y1=>(Option.bind (qhL n (y1.1,(x.2.2.1,()))) fun y2=>(some ((iGe y2.1 x.2.2.2.1),x.2))))):=by kernel_rfl
theorem qeo(n:Nat)(rec)(s):qb3 n rec s=(cond (iLt s.2.2.2.2.1 s.2.2.2.1) (Option.bind (qfh n (s.1,(s.2.2.2.2.1,()))) fun y=>(cond s.2.2.1 (cond (iGt (((List.length y.1):Nat):Int) (((List.length s.2.1):Nat):Int)) (rec (s.1,(s.2.1,(s.2.2.1,(s.2.2.2.1,((iW (iAdd s.2.2.2.2.1 (1:Int))),s.2.2.2.2.2)))))) (cond (iEq (((List.length y.1):Nat):Int) (((List.length s.2.1):Nat):Int)) (Option.bind (qgm n (y.1,(s.2.1,()))) fun y1=>(cond (iGe y1.1 (0:Int)) (rec (s.1,(s.2.1,(s.2.2.1,(s.2.2.2.1,((iW (iAdd s.2.2.2.2.1 (1:Int))),s.2.2.2.2.2)))))) (Option.bind (qey n s.2.2.2.2) fun y2=>(cond y2.1 (rec (s.1,(y.1,(true,(s.2.2.2.1,((iW (iAdd s.2.2.2.2.1 (1:Int))),y2.2)))))) (rec (s.1,(s.2.1,(s.2.2.1,(s.2.2.2.1,((iW (iAdd s.2.2.2.2.1 (1:Int))),y2.2)))))))))) (Option.bind (qey n s.2.2.2.2) fun y1=>(cond y1.1 (rec (s.1,(y.1,(true,(s.2.2.2.1,((iW (iAdd s.2.2.2.2.1 (1:Int))),y1.2)))))) (rec (s.1,(s.2.1,(s.2.2.1,(s.2.2.2.1,((iW (iAdd s.2.2.2.2.1 (1:Int))),y1.2)))))))))) (Option.bind (qey n s.2.2.2.2) fun y1=>(cond y1.1 (rec (s.1,(y.1,(true,(s.2.2.2.1,((iW (iAdd s.2.2.2.2.1 (1:Int))),y1.2)))))) (rec (s.1,(s.2.1,(s.2.2.1,(s.2.2.2.1,((iW (iAdd s.2.2.2.2.1 (1:Int))),y1.2)))))))))) (some (s.2.1,(s.2.2.1,s.2.2.2.2.2)))):=by kernel_rfl
theorem qhG(n:Nat)(x):qcj n x=(Option.bind (qH (iMk x.1)) fun _=>(Option.bind (qH (iEq x.1 x.1)) fun _=>(Option.bind (qn n (qp n) (x.1,((((List.length (List.replicate (x.1).toNat (0:Int))):Nat):Int),((0:Int),(x.2.1,(x.2.2.1,(x.2.2.2.1,((List.replicate (x.1).toNat (0:Int)),())))))))) fun y2=>(Option.bind (qH (iSh .i64 y2.1)) fun _=>(Option.bind (qn n (qb3 n) (y2.2.2.2.2.1,([],(false,((iW (iShl (1:Int) y2.1)),((0:Int),(y2.2.1,(y2.2.2.1,(y2.2.2.2.1,()))))))))) fun y4=>(some y4)))))):=by kernel_rfl
theorem qn8(n:Nat)(x):qje n x=(Option.bind (qeL n (x.2.1,((1:Int),((5000:Int),())))) fun y=>(cond y.1 (Option.bind (qeL n (x.2.2.1,((0:Int),((8:Int),())))) fun y1=>(Option.bind (qcO n (x.1,y1)) fun y2=>(cond (iNe y2.1 (0:Int)) (some ([],y2)) (Option.bind (qcj n ((((List.length x.1):Nat):Int),x)) fun y3=>(cond (!y3.2.1) (some ([],((3:Int),()))) (some (y3.1,((0:Int),())))))))) (Option.bind (qcO n (x.1,(false,()))) fun y1=>(cond (iNe y1.1 (0:Int)) (some ([],y1)) (Option.bind (qcj n ((((List.length x.1):Nat):Int),x)) fun y2=>(cond (!y2.2.1) (some ([],((3:Int),()))) (some (y2.1,((0:Int),()))))))))):=by kernel_rfl
set_option maxHeartbeats 1000000
variable {α:Type}
theorem qx0{a b:Int}(h:a=b):iNe a b=false:=by simp[iNe,h]
theorem qoO(n:Nat)(x:Int):qdz n (x,())=some (false,()):=by rw[qjx];simp only[qx0 rfl]
theorem qw9(n:Nat)(x y:Int):qi8 n (x,(y,()))=some (decide (x<y),()):=by
 rw[qn6]
 simp only[qoO,Option.bind_some,cond_false]
theorem app0{α:Type}(A:List α)(y x:α)(m:List α):(A++y::x::m)[A.length]?=some y:=by simp
theorem app1{α:Type}(A:List α)(y x:α)(m:List α):(A++y::x::m)[A.length+1]?=some x:=by simp
theorem set1{α:Type}(A:List α)(y x z:α)(m:List α):(A++y::x::m).set (A.length+1) z=A++y::z::m:=by simp
theorem set0{α:Type}(A:List α)(y x z:α)(m:List α):(A++y::x::m).set A.length z=A++z::x::m:=by simp
theorem qnX{k:Nat}(h:k<9223372036854775807):iW (iSub ((k+1:Nat):Int) 1)=(k:Int):=by
 rw[qip (by unfold iSub;omega) (by unfold iSub;omega)];unfold iSub;omega
theorem qv7(n:Nat):∀k:Nat,k≤12→∃r,qB n ((IntKind.wrap .u64 (k:Int)),())=some r:=by
 intro k hk
 match k,hk with
 | 0,_=>exact ⟨_,(by kernel_rfl:qB n ((IntKind.wrap .u64 ((0:Nat):Int)),())=some (0,()))⟩
 | 1,_=>exact ⟨_,(by kernel_rfl:qB n ((IntKind.wrap .u64 ((1:Nat):Int)),())=some (1,()))⟩
 | 2,_=>exact ⟨_,(by kernel_rfl:qB n ((IntKind.wrap .u64 ((2:Nat):Int)),())=some (2,()))⟩
 | 3,_=>exact ⟨_,(by kernel_rfl:qB n ((IntKind.wrap .u64 ((3:Nat):Int)),())=some (2,()))⟩
 | 4,_=>exact ⟨_,(by kernel_rfl:qB n ((IntKind.wrap .u64 ((4:Nat):Int)),())=some (3,()))⟩
 | 5,_=>exact ⟨_,(by kernel_rfl:qB n ((IntKind.wrap .u64 ((5:Nat):Int)),())=some (3,()))⟩
 | 6,_=>exact ⟨_,(by kernel_rfl:qB n ((IntKind.wrap .u64 ((6:Nat):Int)),())=some (3,()))⟩
 | 7,_=>exact ⟨_,(by kernel_rfl:qB n ((IntKind.wrap .u64 ((7:Nat):Int)),())=some (3,()))⟩
 | 8,_=>exact ⟨_,(by kernel_rfl:qB n ((IntKind.wrap .u64 ((8:Nat):Int)),())=some (4,()))⟩
 | 9,_=>exact ⟨_,(by kernel_rfl:qB n ((IntKind.wrap .u64 ((9:Nat):Int)),())=some (4,()))⟩
 | 10,_=>exact ⟨_,(by kernel_rfl:qB n ((IntKind.wrap .u64 ((10:Nat):Int)),())=some (4,()))⟩
 | 11,_=>exact ⟨_,(by kernel_rfl:qB n ((IntKind.wrap .u64 ((11:Nat):Int)),())=some (4,()))⟩
 | 12,_=>exact ⟨_,(by kernel_rfl:qB n ((IntKind.wrap .u64 ((12:Nat):Int)),())=some (4,()))⟩
theorem qv8{k:Nat}:iGt ((k+1:Nat):Int) 0=true:=by unfold iGt;exact decide_eq_true (by omega)
theorem qtL{k:Nat}:Int.toNat (k:Int)=k:=by simp
theorem w12{k:Nat}(h:k≤12):iLe (iW (iSub (k:Int) 0)) 12=true:=by
 rw[qip (by unfold iSub;omega) (by unfold iSub;omega)];unfold iLe iSub;exact decide_eq_true (by omega)
theorem qx1(n N i:Nat)(x:Int)(hN:N≤1000)(hn:2000≤n)(r m:List Int)(hr:r.length≤N):qn n (qbK n) ((0:Int),((N:Int),((i:Int),((r.length:Int),((r.reverse++x::m),())))))=some ((0:Int),((N:Int),((i:Int),(((insL (fun x y=>decide (x<y)) x r).reverse++m),())))):=by
 exact qsV (step:=qbK n) (fun x y=>decide (x<y)) (fun j d=>((0:Int),((N:Int),((i:Int),((j:Int),(d,())))))) (fun d=>some ((0:Int),((N:Int),((i:Int),(d,()))))) x N (fun rec A y m hA=>by
  rw[qdJ]
  have hj:A.length<9223372036854775807:=by omega
  simp only[qv8,cond_true,qkm,app0,app1,Option.bind_some,qnX hj,qtL,qw9,set1,set0]) (fun rec d=>by
  rw[qdJ]
  rfl) r m n hr (by omega)
theorem qxx(n:Nat)(l:List Int)(hl:l.length≤1000)(hn:2000≤n):qcD n ((0:Int),((l.length:Int),(l,())))=some (qhg (fun x y=>decide (x<y)) l,()):=by
 rw[qgR]
 cases l with
 | nil =>
  obtain ⟨n',rfl⟩:∃m,n=m+1:=⟨n-1,by omega⟩
  rw[qC,qb5]
  rfl
 | cons a l =>
  obtain ⟨N,hN⟩:∃N,N=(a::l).length:=⟨_,rfl⟩
  have hl':l.length+1=N:=by rw[hN];rfl
  have h1:∀rec (r:List Int) x m,r.length+1+m.length=N→qK n rec ((0:Int),((N:Int),((r.length:Int),((r.reverse++x::m),()))))=rec ((0:Int),((N:Int),(((r.length+1:Nat):Int),(((insL (fun x y=>decide (x<y)) x r).reverse++m),())))):=fun rec r x m hm=>by
   rw[qb5]
   simp only[qwV (show r.length<N by omega),cond_true,qx1 n N r.length x (by omega) hn r m (by omega),Option.bind_some,qcm (show r.length<9223372036854775807 by omega)]
  have h0:∀rec (d:List Int),qK n rec ((0:Int),((N:Int),((N:Int),(d,()))))=some (d,()):=fun rec d=>by
   rw[qb5]
   simp only[qwW,cond_false]
  have go:∀(l2 r:List Int) (n':Nat),r.length+l2.length=N→l2.length<n'→qn n' (qK n) ((0:Int),((N:Int),((r.length:Int),((r.reverse++l2),()))))=some ((qhx (fun x y=>decide (x<y)) r l2).reverse,()):=by
   intro l2
   induction l2 with
   | nil =>
    intro r n' hr hn'
    obtain ⟨n',rfl⟩:∃m,n'=m+1:=⟨n'-1,by omega⟩
    have hr':r.length=N:=by simpa using hr
    rw[qC,List.append_nil,hr',h0]
    rfl
   | cons x l2 ih =>
    intro r n' hr hn'
    obtain ⟨n',rfl⟩:∃m,n'=m+1:=⟨n'-1,by omega⟩
    simp only[List.length_cons] at hr hn'
    rw[qC,h1 _ r x l2 (by omega),qhx]
    have:=ih (insL (fun x y=>decide (x<y)) x r) n' (by rw[qoI];omega) (by omega)
    rw[qoI] at this
    exact this
  have h3:=go l [a] n (by simp;omega) (by omega)
  rw[← hN]
  have e1:iW (iAdd (0:Int) 1)=((1:Nat):Int):=qcm (k:=0) (by omega)
  simp only[e1]
  have e2:(qhx (fun x y=>decide (x<y)) [a] l).reverse=qhg (fun x y=>decide (x<y)) (a::l):=rfl
  rw[e2] at h3
  show Option.bind (qn n (qK n) ((0:Int),((N:Int),(((([a]:List Int).length:Nat):Int),((([a]:List Int).reverse++l),()))))) _=_
  rw[h3]
  rfl
theorem qxa(n:Nat)(l:List Int)(hl:l.length≤12)(hn:2000≤n):qg9 n (l,())=some (qhg (fun x y=>decide (x<y)) l,()):=by
 rw[qlW,qnD]
 obtain ⟨rr,hrr⟩:=qv7 n l.length hl
 simp only[hrr,Option.bind_some]
 rw[qid]
 obtain ⟨n',rfl⟩:∃m,n=m+1:=⟨n-1,by omega⟩
 rw[qhF,qhQ,qC,qhE]
 simp only[w12 hl,cond_true,qxx (n'+1) l (by omega) hn,Option.bind_some]
theorem qop(lt:α→α→Bool)(key:α→Int)(x:α):∀(r:List α),(∀y,y∈r→(lt x y=true→key x≤key y)∧(lt x y=false→key y≤key x))→r.Pairwise (fun a b=>key b≤key a)→(insL lt x r).Pairwise (fun a b=>key b≤key a)
 | [],_,_=>by simp[insL]
 | y::r,h,hr=>by
  rw[List.pairwise_cons] at hr
  unfold insL
  cases hl:lt x y with
  | true =>
   simp only[cond_true]
   rw[List.pairwise_cons]
   refine ⟨fun z hz=>?_,qop lt key x r (fun z hz=>h z (List.mem_cons_of_mem _ hz)) hr.2⟩
   rcases List.mem_cons.1 ((qk7 lt x r).mem_iff.1 hz) with rfl | hz
   ·exact (h y List.mem_cons_self).1 hl
   ·exact hr.1 z hz
  | false =>
   simp only[cond_false]
   rw[List.pairwise_cons,List.pairwise_cons]
   have hy:=(h y List.mem_cons_self).2 hl
   exact ⟨fun z hz=>(by rcases List.mem_cons.1 hz with rfl | hz;exact hy;exact Int.le_trans (hr.1 z hz) hy),hr⟩
theorem qmJ(lt:α→α→Bool)(key:α→Int):∀(l r:List α),(∀x y,x∈r++l→y∈r++l→(lt x y=true→key x≤key y)∧(lt x y=false→key y≤key x))→r.Pairwise (fun a b=>key b≤key a)→(qhx lt r l).Pairwise (fun a b=>key b≤key a)
 | [],r,_,hr=>hr
 | x::l,r,h,hr=>by
  rw[qhx]
  have hm:∀a,a∈insL lt x r++l→a∈r++x::l:=fun a ha=>by
   rcases List.mem_append.1 ha with ha | ha
   ·rcases List.mem_cons.1 ((qk7 lt x r).mem_iff.1 ha) with rfl | ha<;>simp[*]
   ·simp[ha]
  exact qmJ lt key l _ (fun a b ha hb=>h a b (hm a ha) (hm b hb)) (qop lt key x r (fun y hy=>h x y (by simp) (by simp[hy])) hr)
theorem qr3(lt:α→α→Bool)(key:α→Int)(l:List α)(h:∀x y,x∈l→y∈l→(lt x y=true→key x≤key y)∧(lt x y=false→key y≤key x)):(qhg lt l).Pairwise (fun a b=>key a≤key b):=by
 unfold qhg
 rw[List.pairwise_reverse]
 exact qmJ lt key l [] (by simpa using h) List.Pairwise.nil
end
end Go.Proofs.YtbdockhccdkdiaaGreat
