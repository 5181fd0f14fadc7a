/- Texts DqR, DqV in one. -/
import Derived.Test.YtfnflenkeljkiaaGreatNf
import Derived.Test.YtfnflenkeljkiaaGreatQa
/- printed by gen_eqf.py: models at plain types, and what they are, by computing. -/
set_option linter.constructorNameAsVariable false
set_option linter.unusedSimpArgs false
set_option linter.unusedVariables false
set_option linter.unusedSectionVars false
namespace Go.Proofs.YtfnflenkeljkiaaGreat
open Go Go.Proofs Go.RowKit
set_option maxRecDepth 100000
noncomputable section
def qR(n:Nat)(x:(Int×(Int×(Int×Unit)))):(Option (Bool×Unit)):=(qeN n).M x
def qh6(n:Nat)(x:((Int×Int)×(Int×(Int×Unit)))):(Option (Bool×Unit)):=(qm5 n).M x
def qh(n:Nat)(x:(Int×(Int×(Int×Unit)))):(Option (Bool×Unit)):=(qd8 n).M x
def qde(n:Nat)(x:((Int×Int)×(Int×(Int×Unit)))):(Option (Bool×Unit)):=(qjL n).M x
def qgL(n:Nat)(x:Unit):(Option ((Int×(Int×(Int×((List Stay)×((List Int)×((Int×(Int×(Int×(List (Int×Int)))))×(List (Int×(Int×(Int×(List (Int×((Int×Int)×(Int×Int))))))))))))))×((List Stay)×Unit))):=(qjg n).M x
def qh7(n:Nat)(x:(Int×Unit)):(Option (Bool×Unit)):=(qm6 n).M x
def qgX(n:Nat)(x:(Int×(Int×Unit))):(Option (Int×Unit)):=(qja n).M x
theorem qqH(n:Nat)(x):qR n x=(cond (iLe x.2.1 x.1) (some ((iLe x.1 x.2.2.1),())) (some (false,()))):=by kernel_rfl
theorem qpV(n:Nat)(x):qh6 n x=(cond (iLe x.2.1 x.1.1) (cond (iLe x.1.1 x.1.2) (some ((iLe x.1.2 x.2.2.1),())) (some (false,()))) (some (false,()))):=by kernel_rfl
theorem qmm(n:Nat)(x):qh n x=(cond (iGe x.1 x.2.1) (some ((iLe x.1 x.2.2.1),())) (some (false,()))):=by kernel_rfl
theorem qmn(n:Nat)(x):qde n x=(cond (iGe x.1.1 x.2.1) (cond (iLe x.1.1 x.1.2) (some ((iLe x.1.2 x.2.2.1),())) (some (false,()))) (some (false,()))):=by kernel_rfl
theorem qpW(n:Nat)(x):qh7 n x=(some ((iNe x.1 x.1),())):=by kernel_rfl
theorem qoM(n:Nat)(x):qgX n x=(Option.bind (qh7 n (x.1,())) fun y=>(Option.bind (qh7 n x.2) fun y1=>(cond y.1 (cond y1.1 (some ((0:Int),())) (some ((Int.negSucc (0:Nat)),()))) (cond y1.1 (some ((1:Int),())) (cond (iLt x.1 x.2.1) (some ((Int.negSucc (0:Nat)),())) (cond (iGt x.1 x.2.1) (some ((1:Int),())) (some ((0:Int),())))))))):=by kernel_rfl
def qfH(n:Nat)(rec:((Int×(Int×((List (Int×Int))×(Int×(Int×Unit)))))→(Option (Int×Unit))))(s:(Int×(Int×((List (Int×Int))×(Int×(Int×Unit)))))):(Option (Int×Unit)):=(qkv n).step rec s
def qgz(n:Nat)(x:(((Int×(Int×(Int×(List (Int×Int)))))×Unit)×(Int×(Int×Unit)))):(Option (Int×Unit)):=(qlg n).M x
def qeX(n:Nat)(rec:((Int×((List (Int×((Int×Int)×(Int×Int))))×(Int×(Int×(((Int×(Int×(Int×(List (Int×Int)))))×Unit)×((Int×Int)×Unit))))))→(Option ((Int×Int)×Unit))))(s:(Int×((List (Int×((Int×Int)×(Int×Int))))×(Int×(Int×(((Int×(Int×(Int×(List (Int×Int)))))×Unit)×((Int×Int)×Unit))))))):(Option ((Int×Int)×Unit)):=(qjN n).step rec s
def qfI(n:Nat)(x:(((Int×(Int×(Int×(List (Int×Int)))))×Unit)×((Int×(Int×(Int×(List (Int×((Int×Int)×(Int×Int)))))))×(Int×Unit)))):(Option ((Int×Int)×Unit)):=(qke n).M x
def qfz(n:Nat)(rec:((Int×(Int×((List (Int×Int))×(Int×(Int×((Int×(Int×(Int×(List (Int×Int)))))×Unit))))))→(Option (((Int×(Int×(Int×(List (Int×Int)))))×Unit)⊕(Bool×Unit)))))(s:(Int×(Int×((List (Int×Int))×(Int×(Int×((Int×(Int×(Int×(List (Int×Int)))))×Unit))))))):(Option (((Int×(Int×(Int×(List (Int×Int)))))×Unit)⊕(Bool×Unit))):=(qmj n).step rec s
def qkg(n:Nat)(x:((Int×(Int×(Int×(List (Int×Int)))))×Unit)):(Option (Bool×Unit)):=(qm7 n).M x
def qlD(n:Nat)(x:((Int×((Int×Int)×(Int×Int)))×(Int×Unit))):(Option (Bool×(Int×Unit))):=(qfw n).M x
def qeP(n:Nat)(x:((Int×((Int×Int)×(Int×Int)))×(Int×Unit))):(Option (Bool×(Int×Unit))):=(qda n).M x
def qba(n:Nat)(rec:(((List (Int×((Int×Int)×(Int×Int))))×(Int×(Int×(Int×Unit))))→(Option ((Int×Unit)⊕(Int×(Int×Unit))))))(s:((List (Int×((Int×Int)×(Int×Int))))×(Int×(Int×(Int×Unit))))):(Option ((Int×Unit)⊕(Int×(Int×Unit)))):=(qb6 n).step rec s
def qcf(n:Nat)(x:((List (Int×((Int×Int)×(Int×Int))))×(Int×Unit))):(Option (Int×(Int×Unit))):=(qcc n).M x
def qbV(n:Nat)(x:((List (Int×((Int×Int)×(Int×Int))))×(Int×Unit))):(Option (Bool×(Int×Unit))):=(qbU n).M x
def qbg(n:Nat)(x:((List (Int×((Int×Int)×(Int×Int))))×(Int×Unit))):(Option (Bool×(Int×Unit))):=(qfg n).M x
def qkT(n:Nat)(x:((Int×(Int×(Int×(List (Int×((Int×Int)×(Int×Int)))))))×Unit)):(Option (Bool×Unit)):=(qg6 n).M x
def qe3(n:Nat)(x:(((Int×(Int×(Int×(List (Int×Int)))))×Unit)×((Int×(Int×(Int×(List (Int×((Int×Int)×(Int×Int)))))))×(Int×Unit)))):(Option (Int×Unit)):=(qlh n).M x
def qgY(n:Nat)(x:(((Int×(Int×(Int×(List (Int×Int)))))×Unit)×((Int×(Int×(Int×(List (Int×((Int×Int)×(Int×Int)))))))×(Int×(Int×Unit))))):(Option (Bool×Unit)):=(qlA n).M x
def qmo(n:Nat)(x:(Stay×Unit)):(Option (Bool×Unit)):=(qfZ n).M x
def qmp(n:Nat)(x:(Int×Unit)):(Option (Bool×Unit)):=(qf0 n).M x
def qmq(n:Nat)(x:((Int×(Int×(Int×(List (Int×((Int×Int)×(Int×Int)))))))×((Int×(Int×(Int×((List Stay)×((List Int)×((Int×(Int×(Int×(List (Int×Int)))))×(List (Int×(Int×(Int×(List (Int×((Int×Int)×(Int×Int))))))))))))))×Unit))):(Option (Bool×((Int×(Int×(Int×((List Stay)×((List Int)×((Int×(Int×(Int×(List (Int×Int)))))×(List (Int×(Int×(Int×(List (Int×((Int×Int)×(Int×Int))))))))))))))×Unit))):=(qf1 n).M x
def qeQ(n:Nat)(x:(Stay×Unit)):(Option (Bool×Unit)):=(qdb n).M x
def qX(n:Nat)(rec:(((List Stay)×(Int×(Int×Unit)))→(Option (Unit⊕(Int×Unit)))))(s:((List Stay)×(Int×(Int×Unit)))):(Option (Unit⊕(Int×Unit))):=(qbY n).step rec s
def qb9(n:Nat)(x:((List Stay)×Unit)):(Option (Int×Unit)):=(qb7 n).M x
def qbS(n:Nat)(x:((List Stay)×Unit)):(Option (Bool×Unit)):=(qbR n).M x
def qdm(n:Nat)(x:((List Stay)×((Unit×Unit)×Unit))):(Option (Bool×Unit)):=(qfh n).M x
def qf3(n:Nat)(x:(Int×Unit)):(Option (Bool×Unit)):=(qdY n).M x
def qbv(n:Nat)(rec:(((List Int)×(Int×(Int×Unit)))→(Option (Unit⊕(Int×Unit)))))(s:((List Int)×(Int×(Int×Unit)))):(Option (Unit⊕(Int×Unit))):=(qcM n).step rec s
def qcO(n:Nat)(x:((List Int)×Unit)):(Option (Int×Unit)):=(qV n).M x
def qcF(n:Nat)(x:((List Int)×Unit)):(Option (Bool×Unit)):=(qbp n).M x
def qeq(n:Nat)(x:((List Int)×((Unit×Unit)×Unit))):(Option (Bool×Unit)):=(qgw n).M x
def qe4(n:Nat)(x:((Int×(Int×(Int×(List (Int×((Int×Int)×(Int×Int)))))))×((Int×(Int×(Int×((List Stay)×((List Int)×((Int×(Int×(Int×(List (Int×Int)))))×(List (Int×(Int×(Int×(List (Int×((Int×Int)×(Int×Int))))))))))))))×Unit))):(Option (Bool×((Int×(Int×(Int×((List Stay)×((List Int)×((Int×(Int×(Int×(List (Int×Int)))))×(List (Int×(Int×(Int×(List (Int×((Int×Int)×(Int×Int))))))))))))))×Unit))):=(qcn n).M x
def qbc(n:Nat)(rec:(((List (Int×(Int×(Int×(List (Int×((Int×Int)×(Int×Int))))))))×(Int×(Int×((Int×(Int×(Int×((List Stay)×((List Int)×((Int×(Int×(Int×(List (Int×Int)))))×(List (Int×(Int×(Int×(List (Int×((Int×Int)×(Int×Int))))))))))))))×Unit))))→(Option (((Int×(Int×(Int×((List Stay)×((List Int)×((Int×(Int×(Int×(List (Int×Int)))))×(List (Int×(Int×(Int×(List (Int×((Int×Int)×(Int×Int))))))))))))))×Unit)⊕(Int×((Int×(Int×(Int×((List Stay)×((List Int)×((Int×(Int×(Int×(List (Int×Int)))))×(List (Int×(Int×(Int×(List (Int×((Int×Int)×(Int×Int))))))))))))))×Unit))))))(s:((List (Int×(Int×(Int×(List (Int×((Int×Int)×(Int×Int))))))))×(Int×(Int×((Int×(Int×(Int×((List Stay)×((List Int)×((Int×(Int×(Int×(List (Int×Int)))))×(List (Int×(Int×(Int×(List (Int×((Int×Int)×(Int×Int))))))))))))))×Unit))))):(Option (((Int×(Int×(Int×((List Stay)×((List Int)×((Int×(Int×(Int×(List (Int×Int)))))×(List (Int×(Int×(Int×(List (Int×((Int×Int)×(Int×Int))))))))))))))×Unit)⊕(Int×((Int×(Int×(Int×((List Stay)×((List Int)×((Int×(Int×(Int×(List (Int×Int)))))×(List (Int×(Int×(Int×(List (Int×((Int×Int)×(Int×Int))))))))))))))×Unit)))):=(qce n).step rec s
def qck(n:Nat)(x:((List (Int×(Int×(Int×(List (Int×((Int×Int)×(Int×Int))))))))×((Int×(Int×(Int×((List Stay)×((List Int)×((Int×(Int×(Int×(List (Int×Int)))))×(List (Int×(Int×(Int×(List (Int×((Int×Int)×(Int×Int))))))))))))))×Unit))):(Option (Int×((Int×(Int×(Int×((List Stay)×((List Int)×((Int×(Int×(Int×(List (Int×Int)))))×(List (Int×(Int×(Int×(List (Int×((Int×Int)×(Int×Int))))))))))))))×Unit))):=(qch n).M x
def qb0(n:Nat)(x:((List (Int×(Int×(Int×(List (Int×((Int×Int)×(Int×Int))))))))×((Int×(Int×(Int×((List Stay)×((List Int)×((Int×(Int×(Int×(List (Int×Int)))))×(List (Int×(Int×(Int×(List (Int×((Int×Int)×(Int×Int))))))))))))))×Unit))):(Option (Bool×((Int×(Int×(Int×((List Stay)×((List Int)×((Int×(Int×(Int×(List (Int×Int)))))×(List (Int×(Int×(Int×(List (Int×((Int×Int)×(Int×Int))))))))))))))×Unit))):=(qbZ n).M x
def qdw(n:Nat)(x:((List (Int×(Int×(Int×(List (Int×((Int×Int)×(Int×Int))))))))×((Int×(Int×(Int×((List Stay)×((List Int)×((Int×(Int×(Int×(List (Int×Int)))))×(List (Int×(Int×(Int×(List (Int×((Int×Int)×(Int×Int))))))))))))))×Unit))):(Option (Bool×((Int×(Int×(Int×((List Stay)×((List Int)×((Int×(Int×(Int×(List (Int×Int)))))×(List (Int×(Int×(Int×(List (Int×((Int×Int)×(Int×Int))))))))))))))×Unit))):=(qfx n).M x
def qfj(n:Nat)(x:((Int×(Int×(Int×(List (Int×((Int×Int)×(Int×Int)))))))×Unit)):(Option (Bool×Unit)):=(qdl n).M x
def qbf(n:Nat)(rec:(((List (Int×(Int×(Int×(List (Int×((Int×Int)×(Int×Int))))))))×(Int×(Int×Unit)))→(Option (Unit⊕(Int×Unit)))))(s:((List (Int×(Int×(Int×(List (Int×((Int×Int)×(Int×Int))))))))×(Int×(Int×Unit)))):(Option (Unit⊕(Int×Unit))):=(qcj n).step rec s
def qcp(n:Nat)(x:((List (Int×(Int×(Int×(List (Int×((Int×Int)×(Int×Int))))))))×Unit)):(Option (Int×Unit)):=(qco n).M x
def qca(n:Nat)(x:((List (Int×(Int×(Int×(List (Int×((Int×Int)×(Int×Int))))))))×Unit)):(Option (Bool×Unit)):=(qb8 n).M x
def qdM(n:Nat)(x:((List (Int×(Int×(Int×(List (Int×((Int×Int)×(Int×Int))))))))×((Unit×Unit)×Unit))):(Option (Bool×Unit)):=(qfQ n).M x
def qlv(n:Nat)(x:((Int×(Int×(Int×((List Stay)×((List Int)×((Int×(Int×(Int×(List (Int×Int)))))×(List (Int×(Int×(Int×(List (Int×((Int×Int)×(Int×Int))))))))))))))×Unit)):(Option (Int×Unit)):=(qo4 n).M x
theorem qiY(n:Nat)(rec)(s):qfH n rec s=(cond (iLt s.2.2.2.2.1 s.2.2.2.1) (Option.bind (lat s.2.2.1 s.2.2.2.2.1) fun y=>(cond (iLe y.1 s.1) (rec (s.1,(y.2,(s.2.2.1,(s.2.2.2.1,((iW (iAdd s.2.2.2.2.1 (1:Int))),())))))) (rec (s.1,(s.2.1,(s.2.2.1,(s.2.2.2.1,((iW (iAdd s.2.2.2.2.1 (1:Int))),())))))))) (some (s.2.1,()))):=by kernel_rfl
theorem qnW(n:Nat)(x):qgz n x=(Option.bind (qdo (iNe x.2.2.1 (0:Int))) fun _=>(Option.bind (qg n (qfH n) ((iMin (200:Int) (iW (Int.tdiv (iW (iSub (iW (iAdd (iW (iMul (100:Int) x.2.1)) x.2.2.1)) (1:Int))) x.2.2.1))),((0:Int),(x.1.1.2.2.2,((((List.length x.1.1.2.2.2):Nat):Int),((0:Int),())))))) fun y1=>(some y1))):=by kernel_rfl
theorem qh8(n:Nat)(rec)(s):qeX n rec s=(cond (iLt s.2.2.2.1 s.2.2.1) (Option.bind (lat s.2.1 s.2.2.2.1) fun y=>(cond (iLe y.1 s.1) (Option.bind (qgz n (s.2.2.2.2.1,(y.2.1.1,(y.2.2.2,())))) fun y1=>(Option.bind (qgz n (s.2.2.2.2.1,(y.2.1.2,(y.2.2.1,())))) fun y2=>(rec (s.1,(s.2.1,(s.2.2.1,((iW (iAdd s.2.2.2.1 (1:Int))),(s.2.2.2.2.1,(((iW (iAdd s.2.2.2.2.2.1.1 y1.1)),(iW (iAdd s.2.2.2.2.2.1.2 y2.1))),()))))))))) (rec (s.1,(s.2.1,(s.2.2.1,((iW (iAdd s.2.2.2.1 (1:Int))),s.2.2.2.2))))))) (some s.2.2.2.2.2)):=by kernel_rfl
theorem qmE(n:Nat)(x):qfI n x=(Option.bind (qg n (qeX n) (x.2.2.1,(x.2.1.2.2.2,((((List.length x.2.1.2.2.2):Nat):Int),((0:Int),(x.1,(((0:Int),(0:Int)),()))))))) fun y=>(some y)):=by kernel_rfl
theorem qkh(n:Nat)(rec)(s):qfz n rec s=(cond (iLt s.2.2.2.2.1 s.2.2.2.1) (Option.bind (lat s.2.2.1 s.2.2.2.2.1) fun y=>(Option.bind (qR n (y.1,((iW (iAdd s.1 (1:Int))),((200:Int),())))) fun y1=>(cond (!y1.1) (some (Sum.inr (false,()))) (Option.bind (qR n (y.2,(s.2.1,((100:Int),())))) fun y2=>(cond (!y2.1) (some (Sum.inr (false,()))) (rec (y.1,(y.2,(s.2.2.1,(s.2.2.2.1,((iW (iAdd s.2.2.2.2.1 (1:Int))),s.2.2.2.2.2))))))))))) (some (Sum.inl s.2.2.2.2.2))):=by kernel_rfl
theorem qpX(n:Nat)(x):qkg n x=(Option.bind (qg n (qfz n) ((0:Int),((0:Int),(x.1.2.2.2,((((List.length x.1.2.2.2):Nat):Int),((0:Int),x)))))) fun y=>(Sum.elim (fun a=>(Option.bind (qR n (a.1.1,((1:Int),((10000:Int),())))) fun y1=>(cond y1.1 (Option.bind (qR n (a.1.2.1,((1:Int),((10000:Int),())))) fun y2=>(cond y2.1 (Option.bind (qR n (a.1.2.2.1,((0:Int),((100:Int),())))) fun y3=>(cond y3.1 (some ((iLe (((List.length a.1.2.2.2):Nat):Int) (6:Int)),())) (some (false,())))) (some (false,())))) (some (false,()))))) (fun b=>(some b)) y)):=by kernel_rfl
theorem qoN(n:Nat)(x):qlD n x=(Option.bind (qR n (x.1.1,(x.2.1,((99999:Int),())))) fun y=>(cond y.1 (Option.bind (qh6 n (x.1.2.1,((1:Int),((1000:Int),())))) fun y1=>(cond y1.1 (Option.bind (qh6 n (x.1.2.2,((1:Int),((1000:Int),())))) fun y2=>(some (y2.1,(x.1.1,())))) (some (false,(x.1.1,()))))) (some (false,(x.1.1,()))))):=by kernel_rfl
theorem qhr(n:Nat)(x):qeP n x=(Option.bind (qlD n x) fun y=>(some ((!y.1),y.2))):=by kernel_rfl
theorem qbO(n:Nat)(rec)(s):qba n rec s=(cond (iLt s.2.2.1 s.2.1) (Option.bind (lat s.1 s.2.2.1) fun y=>(Option.bind (qeP n (y,s.2.2.2)) fun y1=>(cond y1.1 (some (Sum.inr (s.2.2.1,y1.2))) (rec (s.1,(s.2.1,((iW (iAdd s.2.2.1 (1:Int))),y1.2))))))) (some (Sum.inl s.2.2.2))):=by kernel_rfl
theorem qdU(n:Nat)(x):qcf n x=(Option.bind (qg n (qba n) (x.1,((((List.length x.1):Nat):Int),((0:Int),x.2)))) fun y=>(Sum.elim (fun a=>(some ((Int.negSucc (0:Nat)),a))) (fun b=>(some b)) y)):=by kernel_rfl
theorem qdx(n:Nat)(x):qbV n x=(Option.bind (qcf n x) fun y=>(some ((iGe y.1 (0:Int)),y.2))):=by kernel_rfl
theorem qhY(n:Nat)(x):qbg n x=(Option.bind (qbV n x) fun y=>(some ((!y.1),y.2))):=by kernel_rfl
theorem qqI(n:Nat)(x):qkT n x=(Option.bind (qR n (x.1.1,((0:Int),((99999:Int),())))) fun y=>(cond (!y.1) (some (false,())) (cond (iNe x.1.2.1 (Int.negSucc (0:Nat))) (Option.bind (qR n (x.1.2.1,(x.1.1,((99999:Int),())))) fun y1=>(cond (!y1.1) (some (false,())) (Option.bind (qR n (x.1.2.2.1,((1:Int),((100:Int),())))) fun y2=>(cond (!y2.1) (some (false,())) (cond (iGt (((List.length x.1.2.2.2):Nat):Int) (10:Int)) (some (false,())) (cond (iEq x.1.2.1 (Int.negSucc (0:Nat))) (cond (iGt (((List.length x.1.2.2.2):Nat):Int) (0:Int)) (some (false,())) (Option.bind (qbg n (x.1.2.2.2,(x.1.2.1,()))) fun y3=>(some (y3.1,())))) (Option.bind (qbg n (x.1.2.2.2,(x.1.2.1,()))) fun y3=>(some (y3.1,()))))))))) (Option.bind (qR n (x.1.2.2.1,((1:Int),((100:Int),())))) fun y1=>(cond (!y1.1) (some (false,())) (cond (iGt (((List.length x.1.2.2.2):Nat):Int) (10:Int)) (some (false,())) (cond (iEq x.1.2.1 (Int.negSucc (0:Nat))) (cond (iGt (((List.length x.1.2.2.2):Nat):Int) (0:Int)) (some (false,())) (Option.bind (qbg n (x.1.2.2.2,(x.1.2.1,()))) fun y2=>(some (y2.1,())))) (Option.bind (qbg n (x.1.2.2.2,(x.1.2.1,()))) fun y2=>(some (y2.1,())))))))))):=by kernel_rfl
theorem qjR(n:Nat)(x):qe3 n x=(cond (iGe x.2.2.1 (0:Int)) (some ((iMin (iMin (99999:Int) (iW (iAdd x.2.1.1 x.1.1.1))) (iW (iAdd x.2.2.1 x.1.1.2.1))),())) (some ((iMin (99999:Int) (iW (iAdd x.2.1.1 x.1.1.1))),()))):=by kernel_rfl
theorem qoO(n:Nat)(x):qgY n x=(cond (iGt x.2.1.2.1 x.2.2.1) (Option.bind (qe3 n (x.1,(x.2.1,((Int.negSucc (0:Nat)),())))) fun y=>(cond (iLe x.2.2.1 y.1) (some ((iLe x.2.2.2.1 x.1.1.2.2.1),())) (some (false,())))) (Option.bind (qe3 n (x.1,(x.2.1,(x.2.1.2.1,())))) fun y=>(cond (iLe x.2.2.1 y.1) (some ((iLe x.2.2.2.1 x.1.1.2.2.1),())) (some (false,()))))):=by kernel_rfl
theorem qpb(n:Nat)(x):qmo n x=(Option.bind (qR n (x.1.1,((1:Int),((6:Int),())))) fun y=>(cond y.1 (Option.bind (qR n (x.1.2.1,((0:Int),((99999:Int),())))) fun y1=>(cond y1.1 (Option.bind (qR n (x.1.2.2,((0:Int),((20:Int),())))) fun y2=>(some y2)) (some (false,())))) (some (false,())))):=by kernel_rfl
theorem qpc(n:Nat)(x):qmp n x=(Option.bind (qR n (x.1,((1:Int),((20:Int),())))) fun y=>(some y)):=by kernel_rfl
theorem qpd(n:Nat)(x):qmq n x=(some ((iLe x.1.1 x.2.1.1),x.2)):=by kernel_rfl
theorem qhs(n:Nat)(x):qeQ n x=(Option.bind (qmo n x) fun y=>(some ((!y.1),()))):=by kernel_rfl
theorem qbJ(n:Nat)(rec)(s):qX n rec s=(cond (iLt s.2.2.1 s.2.1) (Option.bind (lat s.1 s.2.2.1) fun y=>(Option.bind (qeQ n (y,())) fun y1=>(cond y1.1 (some (Sum.inr s.2.2)) (rec (s.1,(s.2.1,((iW (iAdd s.2.2.1 (1:Int))),()))))))) (some (Sum.inl ()))):=by kernel_rfl
theorem qdN(n:Nat)(x):qb9 n x=(Option.bind (qg n (qX n) (x.1,((((List.length x.1):Nat):Int),((0:Int),())))) fun y=>(Sum.elim (fun _=>(some ((Int.negSucc (0:Nat)),()))) (fun b=>(some b)) y)):=by kernel_rfl
theorem qdq(n:Nat)(x):qbS n x=(Option.bind (qb9 n x) fun y=>(some ((iGe y.1 (0:Int)),()))):=by kernel_rfl
theorem qhZ(n:Nat)(x):qdm n x=(Option.bind (qbS n (x.1,())) fun y=>(some ((!y.1),()))):=by kernel_rfl
theorem qiU(n:Nat)(x):qf3 n x=(Option.bind (qmp n x) fun y=>(some ((!y.1),()))):=by kernel_rfl
theorem qcw(n:Nat)(rec)(s):qbv n rec s=(cond (iLt s.2.2.1 s.2.1) (Option.bind (lat s.1 s.2.2.1) fun y=>(Option.bind (qf3 n (y,())) fun y1=>(cond y1.1 (some (Sum.inr s.2.2)) (rec (s.1,(s.2.1,((iW (iAdd s.2.2.1 (1:Int))),()))))))) (some (Sum.inl ()))):=by kernel_rfl
theorem qeO(n:Nat)(x):qcO n x=(Option.bind (qg n (qbv n) (x.1,((((List.length x.1):Nat):Int),((0:Int),())))) fun y=>(Sum.elim (fun _=>(some ((Int.negSucc (0:Nat)),()))) (fun b=>(some b)) y)):=by kernel_rfl
theorem qew(n:Nat)(x):qcF n x=(Option.bind (qcO n x) fun y=>(some ((iGe y.1 (0:Int)),()))):=by kernel_rfl
theorem qjj(n:Nat)(x):qeq n x=(Option.bind (qcF n (x.1,())) fun y=>(some ((!y.1),()))):=by kernel_rfl
theorem qhL(n:Nat)(x):qe4 n x=(Option.bind (qmq n x) fun y=>(some ((!y.1),y.2))):=by kernel_rfl
theorem qbT(n:Nat)(rec)(s):qbc n rec s=(cond (iLt s.2.2.1 s.2.1) (Option.bind (lat s.1 s.2.2.1) fun y=>(Option.bind (qe4 n (y,s.2.2.2)) fun y1=>(cond y1.1 (some (Sum.inr (s.2.2.1,y1.2))) (rec (s.1,(s.2.1,((iW (iAdd s.2.2.1 (1:Int))),y1.2))))))) (some (Sum.inl s.2.2.2))):=by kernel_rfl
theorem qd0(n:Nat)(x):qck n x=(Option.bind (qg n (qbc n) (x.1,((((List.length x.1):Nat):Int),((0:Int),x.2)))) fun y=>(Sum.elim (fun a=>(some ((Int.negSucc (0:Nat)),a))) (fun b=>(some b)) y)):=by kernel_rfl
theorem qdF(n:Nat)(x):qb0 n x=(Option.bind (qck n x) fun y=>(some ((iGe y.1 (0:Int)),y.2))):=by kernel_rfl
theorem qil(n:Nat)(x):qdw n x=(Option.bind (qb0 n x) fun y=>(some ((!y.1),y.2))):=by kernel_rfl
theorem qh0(n:Nat)(x):qfj n x=(Option.bind (qkT n x) fun y=>(some ((!y.1),()))):=by kernel_rfl
theorem qbW(n:Nat)(rec)(s):qbf n rec s=(cond (iLt s.2.2.1 s.2.1) (Option.bind (lat s.1 s.2.2.1) fun y=>(Option.bind (qfj n (y,())) fun y1=>(cond y1.1 (some (Sum.inr s.2.2)) (rec (s.1,(s.2.1,((iW (iAdd s.2.2.1 (1:Int))),()))))))) (some (Sum.inl ()))):=by kernel_rfl
theorem qd9(n:Nat)(x):qcp n x=(Option.bind (qg n (qbf n) (x.1,((((List.length x.1):Nat):Int),((0:Int),())))) fun y=>(Sum.elim (fun _=>(some ((Int.negSucc (0:Nat)),()))) (fun b=>(some b)) y)):=by kernel_rfl
theorem qdO(n:Nat)(x):qca n x=(Option.bind (qcp n x) fun y=>(some ((iGe y.1 (0:Int)),()))):=by kernel_rfl
theorem qix(n:Nat)(x):qdM n x=(Option.bind (qca n (x.1,())) fun y=>(some ((!y.1),()))):=by kernel_rfl
theorem qrt(n:Nat)(x):qlv n x=(Option.bind (qkg n (x.1.2.2.2.2.2.1,())) fun y=>(cond (!y.1) (some ((90:Int),())) (Option.bind (qdM n (x.1.2.2.2.2.2.2,(((),()),()))) fun y1=>(cond (!y1.1) (some ((91:Int),())) (Option.bind (qR n (x.1.1,((0:Int),((99999:Int),())))) fun y2=>(cond (!y2.1) (some ((93:Int),())) (Option.bind (qR n (x.1.2.1,((1:Int),((6:Int),())))) fun y3=>(cond (!y3.1) (some ((93:Int),())) (Option.bind (qR n (x.1.2.2.1,((1:Int),((100:Int),())))) fun y4=>(cond (!y4.1) (some ((93:Int),())) (cond (iGt (((List.length x.1.2.2.2.1):Nat):Int) (4:Int)) (some ((93:Int),())) (Option.bind (qdm n (x.1.2.2.2.1,(((),()),()))) fun y5=>(cond (!y5.1) (some ((93:Int),())) (cond (iGt (((List.length x.1.2.2.2.2.1):Nat):Int) (6:Int)) (some ((93:Int),())) (Option.bind (qeq n (x.1.2.2.2.2.1,(((),()),()))) fun y6=>(cond (!y6.1) (some ((93:Int),())) (cond (iGt (((List.length x.1.2.2.2.2.2.2):Nat):Int) (6:Int)) (some ((93:Int),())) (Option.bind (qdw n (x.1.2.2.2.2.2.2,x)) fun y7=>(cond (!y7.1) (some ((93:Int),())) (some ((0:Int),()))))))))))))))))))))):=by kernel_rfl
end
end Go.Proofs.YtfnflenkeljkiaaGreat
