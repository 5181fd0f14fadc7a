/- Texts DqR, DqV in one. -/
import Derived.Test.YtbdockhccdkdiaaNf
import Derived.Test.YtbdockhccdkdiaaQa
/- printed by gen_eqf.py: models at plain types, and what they are, by computing. -/
set_option linter.constructorNameAsVariable false
set_option linter.unusedSimpArgs false
set_option linter.unusedVariables false
set_option linter.unusedSectionVars false
namespace Go.Proofs.Ytbdockhccdkdiaa
open Go Go.Proofs Go.RowKit
set_option maxRecDepth 100000
noncomputable section
def qA(n:Nat)(x:(Int×(Int×(Int×Unit)))):(Option (Bool×Unit)):=(qcP n).M x
def qhi(n:Nat)(x:((Int×Int)×(Int×(Int×Unit)))):(Option (Bool×Unit)):=(qjm n).M x
def qh(n:Nat)(x:(Int×(Int×(Int×Unit)))):(Option (Bool×Unit)):=(qdS n).M x
def qc6(n:Nat)(x:((Int×Int)×(Int×(Int×Unit)))):(Option (Bool×Unit)):=(qiS n).M x
def qhc(n:Nat)(x:(Int×(Int×Unit))):(Option ((Int×Int)×Unit)):=(qg9 n).M x
def qgc(n:Nat)(x:Unit):(Option ((Int×(Int×(Int×((List Stay)×((List Int)×((Int×(Int×(Int×(List (Int×Int)))))×(List (Int×(Int×(Int×(List (Int×((Int×Int)×(Int×Int))))))))))))))×((List Stay)×Unit))):=(qin n).M x
def qfN(n:Nat)(x:((List Int)×((List Int)×Unit))):(Option (Bool×Unit)):=(qh8 n).M x
def qhj(n:Nat)(x:(Int×Unit)):(Option (Bool×Unit)):=(qmg n).M x
def qgm(n:Nat)(x:(Int×(Int×Unit))):(Option (Int×Unit)):=(qgl n).M x
def qlw(n:Nat)(x:((List Stay)×(Int×(Int×Unit)))):(Option ((List Int)×(Int×Unit))):=(qoU n).M x
theorem qpC(n:Nat)(x):qA n x=(cond (iLe x.2.1 x.1) (some ((iLe x.1 x.2.2.1),())) (some (false,()))):=by kernel_rfl
theorem qo2(n:Nat)(x):qhi n x=(cond (iLe x.2.1 x.1.1) (cond (iLe x.1.1 x.1.2) (some ((iLe x.1.2 x.2.2.1),())) (some (false,()))) (some (false,()))):=by kernel_rfl
theorem qlx(n:Nat)(x):qh n x=(cond (iGe x.1 x.2.1) (some ((iLe x.1 x.2.2.1),())) (some (false,()))):=by kernel_rfl
theorem qly(n:Nat)(x):qc6 n x=(cond (iGe x.1.1 x.2.1) (cond (iLe x.1.1 x.1.2) (some ((iLe x.1.2 x.2.2.1),())) (some (false,()))) (some (false,()))):=by kernel_rfl
theorem qo3(n:Nat)(x):qhj n x=(some ((iNe x.1 x.1),())):=by kernel_rfl
theorem qnO(n:Nat)(x):qgm n x=(Option.bind (qhj n (x.1,())) fun y=>(Option.bind (qhj n x.2) fun y1=>(cond y.1 (cond y1.1 (some ((0:Int),())) (some ((Int.negSucc (0:Nat)),()))) (cond y1.1 (some ((1:Int),())) (cond (iLt x.1 x.2.1) (some ((Int.negSucc (0:Nat)),())) (cond (iGt x.1 x.2.1) (some ((1:Int),())) (some ((0:Int),())))))))):=by kernel_rfl
def qfe(n:Nat)(rec:((Int×(Int×((List (Int×Int))×(Int×(Int×Unit)))))→(Option (Int×Unit))))(s:(Int×(Int×((List (Int×Int))×(Int×(Int×Unit)))))):(Option (Int×Unit)):=(qjJ n).step rec s
def qf3(n:Nat)(x:(((Int×(Int×(Int×(List (Int×Int)))))×Unit)×(Int×(Int×Unit)))):(Option (Int×Unit)):=(qks n).M x
def qeB(n:Nat)(rec:((Int×((List (Int×((Int×Int)×(Int×Int))))×(Int×(Int×(((Int×(Int×(Int×(List (Int×Int)))))×Unit)×((Int×Int)×Unit))))))→(Option ((Int×Int)×Unit))))(s:(Int×((List (Int×((Int×Int)×(Int×Int))))×(Int×(Int×(((Int×(Int×(Int×(List (Int×Int)))))×Unit)×((Int×Int)×Unit))))))):(Option ((Int×Int)×Unit)):=(qiV n).step rec s
def qd6(n:Nat)(x:(((Int×(Int×(Int×(List (Int×Int)))))×Unit)×((Int×(Int×(Int×(List (Int×((Int×Int)×(Int×Int)))))))×(Int×Unit)))):(Option ((Int×Int)×Unit)):=(qfd n).M x
def qe9(n:Nat)(rec:((Int×(Int×((List (Int×Int))×(Int×(Int×((Int×(Int×(Int×(List (Int×Int)))))×Unit))))))→(Option (((Int×(Int×(Int×(List (Int×Int)))))×Unit)⊕(Bool×Unit)))))(s:(Int×(Int×((List (Int×Int))×(Int×(Int×((Int×(Int×(Int×(List (Int×Int)))))×Unit))))))):(Option (((Int×(Int×(Int×(List (Int×Int)))))×Unit)⊕(Bool×Unit))):=(qls n).step rec s
def qhk(n:Nat)(x:((Int×(Int×(Int×(List (Int×Int)))))×Unit)):(Option (Bool×Unit)):=(qjn n).M x
def qkN(n:Nat)(x:((Int×((Int×Int)×(Int×Int)))×(Int×Unit))):(Option (Bool×(Int×Unit))):=(qe6 n).M x
def qex(n:Nat)(x:((Int×((Int×Int)×(Int×Int)))×(Int×Unit))):(Option (Bool×(Int×Unit))):=(qc1 n).M x
def qJ(n:Nat)(rec:(((List (Int×((Int×Int)×(Int×Int))))×(Int×(Int×(Int×Unit))))→(Option ((Int×Unit)⊕(Int×(Int×Unit))))))(s:((List (Int×((Int×Int)×(Int×Int))))×(Int×(Int×(Int×Unit))))):(Option ((Int×Unit)⊕(Int×(Int×Unit)))):=(qbP n).step rec s
def qbY(n:Nat)(x:((List (Int×((Int×Int)×(Int×Int))))×(Int×Unit))):(Option (Int×(Int×Unit))):=(qbV n).M x
def qbD(n:Nat)(x:((List (Int×((Int×Int)×(Int×Int))))×(Int×Unit))):(Option (Bool×(Int×Unit))):=(qbC n).M x
def qQ(n:Nat)(x:((List (Int×((Int×Int)×(Int×Int))))×(Int×Unit))):(Option (Bool×(Int×Unit))):=(qeR n).M x
def qh5(n:Nat)(x:((Int×(Int×(Int×(List (Int×((Int×Int)×(Int×Int)))))))×Unit)):(Option (Bool×Unit)):=(qfo n).M x
def qo4(n:Nat)(x:((Int×(Int×(Int×(List (Int×Int)))))×((Int×(Int×(Int×(List (Int×((Int×Int)×(Int×Int)))))))×Unit))):(Option (((Int×(Int×(Int×(List (Int×Int)))))×Unit)×(Int×Unit))):=(qoW n).M x
def qnP(n:Nat)(x:((Int×(Int×(Int×(List (Int×Int)))))×((Int×(Int×(Int×(List (Int×((Int×Int)×(Int×Int)))))))×(Int×Unit)))):(Option (((Int×(Int×(Int×(List (Int×Int)))))×Unit)×(Int×Unit))):=(qnM n).M x
def qj9(n:Nat)(x:((Int×(Int×(Int×(List (Int×Int)))))×((Int×(Int×(Int×(List (Int×((Int×Int)×(Int×Int)))))))×(Int×Unit)))):(Option ((Int×Int)×(Int×Unit))):=(qm0 n).M x
def qeG(n:Nat)(x:(((Int×(Int×(Int×(List (Int×Int)))))×Unit)×((Int×(Int×(Int×(List (Int×((Int×Int)×(Int×Int)))))))×(Int×Unit)))):(Option (Int×Unit)):=(qkt n).M x
def qed(n:Nat)(x:(((Int×(Int×(Int×(List (Int×Int)))))×Unit)×((Int×(Int×(Int×(List (Int×((Int×Int)×(Int×Int)))))))×(Int×(Int×Unit))))):(Option (Bool×Unit)):=(qik n).M x
def qlz(n:Nat)(x:(Stay×Unit)):(Option (Bool×Unit)):=(qft n).M x
def qlA(n:Nat)(x:(Int×Unit)):(Option (Bool×Unit)):=(qfu n).M x
def qlB(n:Nat)(x:((Int×(Int×(Int×(List (Int×((Int×Int)×(Int×Int)))))))×((Int×(Int×(Int×((List Stay)×((List Int)×((Int×(Int×(Int×(List (Int×Int)))))×(List (Int×(Int×(Int×(List (Int×((Int×Int)×(Int×Int))))))))))))))×Unit))):(Option (Bool×((Int×(Int×(Int×((List Stay)×((List Int)×((Int×(Int×(Int×(List (Int×Int)))))×(List (Int×(Int×(Int×(List (Int×((Int×Int)×(Int×Int))))))))))))))×Unit))):=(qfv n).M x
def qey(n:Nat)(x:(Stay×Unit)):(Option (Bool×Unit)):=(qc2 n).M x
def qF(n:Nat)(rec:(((List Stay)×(Int×(Int×Unit)))→(Option (Unit⊕(Int×Unit)))))(s:((List Stay)×(Int×(Int×Unit)))):(Option (Unit⊕(Int×Unit))):=(qbG n).step rec s
def qbS(n:Nat)(x:((List Stay)×Unit)):(Option (Int×Unit)):=(qbQ n).M x
def qbz(n:Nat)(x:((List Stay)×Unit)):(Option (Bool×Unit)):=(qby n).M x
def qdb(n:Nat)(x:((List Stay)×((Unit×Unit)×Unit))):(Option (Bool×Unit)):=(qeS n).M x
def qfx(n:Nat)(x:(Int×Unit)):(Option (Bool×Unit)):=(qdL n).M x
def qba(n:Nat)(rec:(((List Int)×(Int×(Int×Unit)))→(Option (Unit⊕(Int×Unit)))))(s:((List Int)×(Int×(Int×Unit)))):(Option (Unit⊕(Int×Unit))):=(qcF n).step rec s
def qcJ(n:Nat)(x:((List Int)×Unit)):(Option (Int×Unit)):=(qcI n).M x
def qcx(n:Nat)(x:((List Int)×Unit)):(Option (Bool×Unit)):=(qcv n).M x
def qd7(n:Nat)(x:((List Int)×((Unit×Unit)×Unit))):(Option (Bool×Unit)):=(qf0 n).M x
def qeH(n:Nat)(x:((Int×(Int×(Int×(List (Int×((Int×Int)×(Int×Int)))))))×((Int×(Int×(Int×((List Stay)×((List Int)×((Int×(Int×(Int×(List (Int×Int)))))×(List (Int×(Int×(Int×(List (Int×((Int×Int)×(Int×Int))))))))))))))×Unit))):(Option (Bool×((Int×(Int×(Int×((List Stay)×((List Int)×((Int×(Int×(Int×(List (Int×Int)))))×(List (Int×(Int×(Int×(List (Int×((Int×Int)×(Int×Int))))))))))))))×Unit))):=(qcg n).M x
def qL(n:Nat)(rec:(((List (Int×(Int×(Int×(List (Int×((Int×Int)×(Int×Int))))))))×(Int×(Int×((Int×(Int×(Int×((List Stay)×((List Int)×((Int×(Int×(Int×(List (Int×Int)))))×(List (Int×(Int×(Int×(List (Int×((Int×Int)×(Int×Int))))))))))))))×Unit))))→(Option (((Int×(Int×(Int×((List Stay)×((List Int)×((Int×(Int×(Int×(List (Int×Int)))))×(List (Int×(Int×(Int×(List (Int×((Int×Int)×(Int×Int))))))))))))))×Unit)⊕(Int×((Int×(Int×(Int×((List Stay)×((List Int)×((Int×(Int×(Int×(List (Int×Int)))))×(List (Int×(Int×(Int×(List (Int×((Int×Int)×(Int×Int))))))))))))))×Unit))))))(s:((List (Int×(Int×(Int×(List (Int×((Int×Int)×(Int×Int))))))))×(Int×(Int×((Int×(Int×(Int×((List Stay)×((List Int)×((Int×(Int×(Int×(List (Int×Int)))))×(List (Int×(Int×(Int×(List (Int×((Int×Int)×(Int×Int))))))))))))))×Unit))))):(Option (((Int×(Int×(Int×((List Stay)×((List Int)×((Int×(Int×(Int×(List (Int×Int)))))×(List (Int×(Int×(Int×(List (Int×((Int×Int)×(Int×Int))))))))))))))×Unit)⊕(Int×((Int×(Int×(Int×((List Stay)×((List Int)×((Int×(Int×(Int×(List (Int×Int)))))×(List (Int×(Int×(Int×(List (Int×((Int×Int)×(Int×Int))))))))))))))×Unit)))):=(qbX n).step rec s
def qcb(n:Nat)(x:((List (Int×(Int×(Int×(List (Int×((Int×Int)×(Int×Int))))))))×((Int×(Int×(Int×((List Stay)×((List Int)×((Int×(Int×(Int×(List (Int×Int)))))×(List (Int×(Int×(Int×(List (Int×((Int×Int)×(Int×Int))))))))))))))×Unit))):(Option (Int×((Int×(Int×(Int×((List Stay)×((List Int)×((Int×(Int×(Int×(List (Int×Int)))))×(List (Int×(Int×(Int×(List (Int×((Int×Int)×(Int×Int))))))))))))))×Unit))):=(qb8 n).M x
def qbI(n:Nat)(x:((List (Int×(Int×(Int×(List (Int×((Int×Int)×(Int×Int))))))))×((Int×(Int×(Int×((List Stay)×((List Int)×((Int×(Int×(Int×(List (Int×Int)))))×(List (Int×(Int×(Int×(List (Int×((Int×Int)×(Int×Int))))))))))))))×Unit))):(Option (Bool×((Int×(Int×(Int×((List Stay)×((List Int)×((Int×(Int×(Int×(List (Int×Int)))))×(List (Int×(Int×(Int×(List (Int×((Int×Int)×(Int×Int))))))))))))))×Unit))):=(qbH n).M x
def qdl(n:Nat)(x:((List (Int×(Int×(Int×(List (Int×((Int×Int)×(Int×Int))))))))×((Int×(Int×(Int×((List Stay)×((List Int)×((Int×(Int×(Int×(List (Int×Int)))))×(List (Int×(Int×(Int×(List (Int×((Int×Int)×(Int×Int))))))))))))))×Unit))):(Option (Bool×((Int×(Int×(Int×((List Stay)×((List Int)×((Int×(Int×(Int×(List (Int×Int)))))×(List (Int×(Int×(Int×(List (Int×((Int×Int)×(Int×Int))))))))))))))×Unit))):=(qe7 n).M x
def qeU(n:Nat)(x:((Int×(Int×(Int×(List (Int×((Int×Int)×(Int×Int)))))))×Unit)):(Option (Bool×Unit)):=(qda n).M x
def qP(n:Nat)(rec:(((List (Int×(Int×(Int×(List (Int×((Int×Int)×(Int×Int))))))))×(Int×(Int×Unit)))→(Option (Unit⊕(Int×Unit)))))(s:((List (Int×(Int×(Int×(List (Int×((Int×Int)×(Int×Int))))))))×(Int×(Int×Unit)))):(Option (Unit⊕(Int×Unit))):=(qca n).step rec s
def qci(n:Nat)(x:((List (Int×(Int×(Int×(List (Int×((Int×Int)×(Int×Int))))))))×Unit)):(Option (Int×Unit)):=(qch n).M x
def qbT(n:Nat)(x:((List (Int×(Int×(Int×(List (Int×((Int×Int)×(Int×Int))))))))×Unit)):(Option (Bool×Unit)):=(qbR n).M x
def qdE(n:Nat)(x:((List (Int×(Int×(Int×(List (Int×((Int×Int)×(Int×Int))))))))×((Unit×Unit)×Unit))):(Option (Bool×Unit)):=(qfl n).M x
def qkG(n:Nat)(x:((Int×(Int×(Int×((List Stay)×((List Int)×((Int×(Int×(Int×(List (Int×Int)))))×(List (Int×(Int×(Int×(List (Int×((Int×Int)×(Int×Int))))))))))))))×Unit)):(Option (Int×Unit)):=(qoa n).M x
theorem qia(n:Nat)(rec)(s):qfe n rec s=(cond (iLt s.2.2.2.2.1 s.2.2.2.1) (Option.bind (lat s.2.2.1 s.2.2.2.2.1) fun y=>(cond (iLe y.1 s.1) (rec (s.1,(y.2,(s.2.2.1,(s.2.2.2.1,((iW (iAdd s.2.2.2.2.1 (1:Int))),())))))) (rec (s.1,(s.2.1,(s.2.2.1,(s.2.2.2.1,((iW (iAdd s.2.2.2.2.1 (1:Int))),())))))))) (some (s.2.1,()))):=by kernel_rfl
theorem qm4(n:Nat)(x):qf3 n x=(Option.bind (qcD (iNe x.2.2.1 (0:Int))) fun _=>(Option.bind (qj n (qfe n) ((iMin (200:Int) (iW (Int.tdiv (iW (iSub (iW (iAdd (iW (iMul (100:Int) x.2.1)) x.2.2.1)) (1:Int))) x.2.2.1))),((0:Int),(x.1.1.2.2.2,((((List.length x.1.1.2.2.2):Nat):Int),((0:Int),())))))) fun y1=>(some y1))):=by kernel_rfl
theorem qhl(n:Nat)(rec)(s):qeB n rec s=(cond (iLt s.2.2.2.1 s.2.2.1) (Option.bind (lat s.2.1 s.2.2.2.1) fun y=>(cond (iLe y.1 s.1) (Option.bind (qf3 n (s.2.2.2.2.1,(y.2.1.1,(y.2.2.2,())))) fun y1=>(Option.bind (qf3 n (s.2.2.2.2.1,(y.2.1.2,(y.2.2.1,())))) fun y2=>(rec (s.1,(s.2.1,(s.2.2.1,((iW (iAdd s.2.2.2.1 (1:Int))),(s.2.2.2.2.1,(((iW (iAdd s.2.2.2.2.2.1.1 y1.1)),(iW (iAdd s.2.2.2.2.2.1.2 y2.1))),()))))))))) (rec (s.1,(s.2.1,(s.2.2.1,((iW (iAdd s.2.2.2.1 (1:Int))),s.2.2.2.2))))))) (some s.2.2.2.2.2)):=by kernel_rfl
theorem qlM(n:Nat)(x):qd6 n x=(Option.bind (qj n (qeB n) (x.2.2.1,(x.2.1.2.2.2,((((List.length x.2.1.2.2.2):Nat):Int),((0:Int),(x.1,(((0:Int),(0:Int)),()))))))) fun y=>(some y)):=by kernel_rfl
theorem qjq(n:Nat)(rec)(s):qe9 n rec s=(cond (iLt s.2.2.2.2.1 s.2.2.2.1) (Option.bind (lat s.2.2.1 s.2.2.2.2.1) fun y=>(Option.bind (qA n (y.1,((iW (iAdd s.1 (1:Int))),((200:Int),())))) fun y1=>(cond (!y1.1) (some (Sum.inr (false,()))) (Option.bind (qA n (y.2,(s.2.1,((100:Int),())))) fun y2=>(cond (!y2.1) (some (Sum.inr (false,()))) (rec (y.1,(y.2,(s.2.2.1,(s.2.2.2.1,((iW (iAdd s.2.2.2.2.1 (1:Int))),s.2.2.2.2.2))))))))))) (some (Sum.inl s.2.2.2.2.2))):=by kernel_rfl
theorem qo5(n:Nat)(x):qhk n x=(Option.bind (qj n (qe9 n) ((0:Int),((0:Int),(x.1.2.2.2,((((List.length x.1.2.2.2):Nat):Int),((0:Int),x)))))) fun y=>(Sum.elim (fun a=>(Option.bind (qA n (a.1.1,((1:Int),((10000:Int),())))) fun y1=>(cond y1.1 (Option.bind (qA n (a.1.2.1,((1:Int),((10000:Int),())))) fun y2=>(cond y2.1 (Option.bind (qA n (a.1.2.2.1,((0:Int),((100:Int),())))) fun y3=>(cond y3.1 (some ((iLe (((List.length a.1.2.2.2):Nat):Int) (6:Int)),())) (some (false,())))) (some (false,())))) (some (false,()))))) (fun b=>(some b)) y)):=by kernel_rfl
theorem qnQ(n:Nat)(x):qkN n x=(Option.bind (qA n (x.1.1,(x.2.1,((99999:Int),())))) fun y=>(cond y.1 (Option.bind (qhi n (x.1.2.1,((1:Int),((1000:Int),())))) fun y1=>(cond y1.1 (Option.bind (qhi n (x.1.2.2,((1:Int),((1000:Int),())))) fun y2=>(some (y2.1,(x.1.1,())))) (some (false,(x.1.1,()))))) (some (false,(x.1.1,()))))):=by kernel_rfl
theorem qgM(n:Nat)(x):qex n x=(Option.bind (qkN n x) fun y=>(some ((!y.1),y.2))):=by kernel_rfl
theorem qbr(n:Nat)(rec)(s):qJ n rec s=(cond (iLt s.2.2.1 s.2.1) (Option.bind (lat s.1 s.2.2.1) fun y=>(Option.bind (qex n (y,s.2.2.2)) fun y1=>(cond y1.1 (some (Sum.inr (s.2.2.1,y1.2))) (rec (s.1,(s.2.1,((iW (iAdd s.2.2.1 (1:Int))),y1.2))))))) (some (Sum.inl s.2.2.2))):=by kernel_rfl
theorem qdI(n:Nat)(x):qbY n x=(Option.bind (qj n (qJ n) (x.1,((((List.length x.1):Nat):Int),((0:Int),x.2)))) fun y=>(Sum.elim (fun a=>(some ((Int.negSucc (0:Nat)),a))) (fun b=>(some b)) y)):=by kernel_rfl
theorem qdm(n:Nat)(x):qbD n x=(Option.bind (qbY n x) fun y=>(some ((iGe y.1 (0:Int)),y.2))):=by kernel_rfl
theorem qhd(n:Nat)(x):qQ n x=(Option.bind (qbD n x) fun y=>(some ((!y.1),y.2))):=by kernel_rfl
theorem qpD(n:Nat)(x):qh5 n x=(Option.bind (qA n (x.1.1,((0:Int),((99999:Int),())))) fun y=>(cond (!y.1) (some (false,())) (cond (iNe x.1.2.1 (Int.negSucc (0:Nat))) (Option.bind (qA n (x.1.2.1,(x.1.1,((99999:Int),())))) fun y1=>(cond (!y1.1) (some (false,())) (Option.bind (qA n (x.1.2.2.1,((1:Int),((100:Int),())))) fun y2=>(cond (!y2.1) (some (false,())) (cond (iGt (((List.length x.1.2.2.2):Nat):Int) (10:Int)) (some (false,())) (cond (iEq x.1.2.1 (Int.negSucc (0:Nat))) (cond (iGt (((List.length x.1.2.2.2):Nat):Int) (0:Int)) (some (false,())) (Option.bind (qQ n (x.1.2.2.2,(x.1.2.1,()))) fun y3=>(some (y3.1,())))) (Option.bind (qQ n (x.1.2.2.2,(x.1.2.1,()))) fun y3=>(some (y3.1,()))))))))) (Option.bind (qA n (x.1.2.2.1,((1:Int),((100:Int),())))) fun y1=>(cond (!y1.1) (some (false,())) (cond (iGt (((List.length x.1.2.2.2):Nat):Int) (10:Int)) (some (false,())) (cond (iEq x.1.2.1 (Int.negSucc (0:Nat))) (cond (iGt (((List.length x.1.2.2.2):Nat):Int) (0:Int)) (some (false,())) (Option.bind (qQ n (x.1.2.2.2,(x.1.2.1,()))) fun y2=>(some (y2.1,())))) (Option.bind (qQ n (x.1.2.2.2,(x.1.2.1,()))) fun y2=>(some (y2.1,())))))))))):=by kernel_rfl
theorem qqX(n:Nat)(x):qo4 n x=(Option.bind (qhk n (x.1,())) fun y=>(cond (!y.1) (some ((((0:Int),((0:Int),((0:Int),[]))),()),((90:Int),()))) (Option.bind (qh5 n x.2) fun y1=>(cond (!y1.1) (some ((((0:Int),((0:Int),((0:Int),[]))),()),((91:Int),()))) (some ((x.1,()),((0:Int),()))))))):=by kernel_rfl
theorem qso(n:Nat)(x):qnP n x=(Option.bind (qo4 n (x.1,(x.2.1,()))) fun y=>(cond (iEq y.2.1 (0:Int)) (Option.bind (qA n (x.2.2.1,(x.2.1.1,((99999:Int),())))) fun y1=>(cond (!y1.1) (some (y.1,((1:Int),()))) (some y))) (some y))):=by kernel_rfl
theorem qiZ(n:Nat)(x):qeG n x=(cond (iGe x.2.2.1 (0:Int)) (some ((iMin (iMin (99999:Int) (iW (iAdd x.2.1.1 x.1.1.1))) (iW (iAdd x.2.2.1 x.1.1.2.1))),())) (some ((iMin (99999:Int) (iW (iAdd x.2.1.1 x.1.1.1))),()))):=by kernel_rfl
theorem qnR(n:Nat)(x):qed n x=(cond (iGt x.2.1.2.1 x.2.2.1) (Option.bind (qeG n (x.1,(x.2.1,((Int.negSucc (0:Nat)),())))) fun y=>(cond (iLe x.2.2.1 y.1) (some ((iLe x.2.2.2.1 x.1.1.2.2.1),())) (some (false,())))) (Option.bind (qeG n (x.1,(x.2.1,(x.2.1.2.1,())))) fun y=>(cond (iLe x.2.2.1 y.1) (some ((iLe x.2.2.2.1 x.1.1.2.2.1),())) (some (false,()))))):=by kernel_rfl
theorem qog(n:Nat)(x):qlz n x=(Option.bind (qA n (x.1.1,((1:Int),((6:Int),())))) fun y=>(cond y.1 (Option.bind (qA n (x.1.2.1,((0:Int),((99999:Int),())))) fun y1=>(cond y1.1 (Option.bind (qA n (x.1.2.2,((0:Int),((20:Int),())))) fun y2=>(some y2)) (some (false,())))) (some (false,())))):=by kernel_rfl
theorem qoh(n:Nat)(x):qlA n x=(Option.bind (qA n (x.1,((1:Int),((20:Int),())))) fun y=>(some y)):=by kernel_rfl
theorem qoi(n:Nat)(x):qlB n x=(some ((iLe x.1.1 x.2.1.1),x.2)):=by kernel_rfl
theorem qgN(n:Nat)(x):qey n x=(Option.bind (qlz n x) fun y=>(some ((!y.1),()))):=by kernel_rfl
theorem qbn(n:Nat)(rec)(s):qF n rec s=(cond (iLt s.2.2.1 s.2.1) (Option.bind (lat s.1 s.2.2.1) fun y=>(Option.bind (qey n (y,())) fun y1=>(cond y1.1 (some (Sum.inr s.2.2)) (rec (s.1,(s.2.1,((iW (iAdd s.2.2.1 (1:Int))),()))))))) (some (Sum.inl ()))):=by kernel_rfl
theorem qdF(n:Nat)(x):qbS n x=(Option.bind (qj n (qF n) (x.1,((((List.length x.1):Nat):Int),((0:Int),())))) fun y=>(Sum.elim (fun _=>(some ((Int.negSucc (0:Nat)),()))) (fun b=>(some b)) y)):=by kernel_rfl
theorem qdd(n:Nat)(x):qbz n x=(Option.bind (qbS n x) fun y=>(some ((iGe y.1 (0:Int)),()))):=by kernel_rfl
theorem qhe(n:Nat)(x):qdb n x=(Option.bind (qbz n (x.1,())) fun y=>(some ((!y.1),()))):=by kernel_rfl
theorem qh6(n:Nat)(x):qfx n x=(Option.bind (qlA n x) fun y=>(some ((!y.1),()))):=by kernel_rfl
theorem qco(n:Nat)(rec)(s):qba n rec s=(cond (iLt s.2.2.1 s.2.1) (Option.bind (lat s.1 s.2.2.1) fun y=>(Option.bind (qfx n (y,())) fun y1=>(cond y1.1 (some (Sum.inr s.2.2)) (rec (s.1,(s.2.1,((iW (iAdd s.2.2.1 (1:Int))),()))))))) (some (Sum.inl ()))):=by kernel_rfl
theorem qeu(n:Nat)(x):qcJ n x=(Option.bind (qj n (qba n) (x.1,((((List.length x.1):Nat):Int),((0:Int),())))) fun y=>(Sum.elim (fun _=>(some ((Int.negSucc (0:Nat)),()))) (fun b=>(some b)) y)):=by kernel_rfl
theorem qee(n:Nat)(x):qcx n x=(Option.bind (qcJ n x) fun y=>(some ((iGe y.1 (0:Int)),()))):=by kernel_rfl
theorem qiq(n:Nat)(x):qd7 n x=(Option.bind (qcx n (x.1,())) fun y=>(some ((!y.1),()))):=by kernel_rfl
theorem qgZ(n:Nat)(x):qeH n x=(Option.bind (qlB n x) fun y=>(some ((!y.1),y.2))):=by kernel_rfl
theorem qbA(n:Nat)(rec)(s):qL n rec s=(cond (iLt s.2.2.1 s.2.1) (Option.bind (lat s.1 s.2.2.1) fun y=>(Option.bind (qeH n (y,s.2.2.2)) fun y1=>(cond y1.1 (some (Sum.inr (s.2.2.1,y1.2))) (rec (s.1,(s.2.1,((iW (iAdd s.2.2.1 (1:Int))),y1.2))))))) (some (Sum.inl s.2.2.2))):=by kernel_rfl
theorem qdN(n:Nat)(x):qcb n x=(Option.bind (qj n (qL n) (x.1,((((List.length x.1):Nat):Int),((0:Int),x.2)))) fun y=>(Sum.elim (fun a=>(some ((Int.negSucc (0:Nat)),a))) (fun b=>(some b)) y)):=by kernel_rfl
theorem qdu(n:Nat)(x):qbI n x=(Option.bind (qcb n x) fun y=>(some ((iGe y.1 (0:Int)),y.2))):=by kernel_rfl
theorem qhu(n:Nat)(x):qdl n x=(Option.bind (qbI n x) fun y=>(some ((!y.1),y.2))):=by kernel_rfl
theorem qhf(n:Nat)(x):qeU n x=(Option.bind (qh5 n x) fun y=>(some ((!y.1),()))):=by kernel_rfl
theorem qbE(n:Nat)(rec)(s):qP n rec s=(cond (iLt s.2.2.1 s.2.1) (Option.bind (lat s.1 s.2.2.1) fun y=>(Option.bind (qeU n (y,())) fun y1=>(cond y1.1 (some (Sum.inr s.2.2)) (rec (s.1,(s.2.1,((iW (iAdd s.2.2.1 (1:Int))),()))))))) (some (Sum.inl ()))):=by kernel_rfl
theorem qdT(n:Nat)(x):qci n x=(Option.bind (qj n (qP n) (x.1,((((List.length x.1):Nat):Int),((0:Int),())))) fun y=>(Sum.elim (fun _=>(some ((Int.negSucc (0:Nat)),()))) (fun b=>(some b)) y)):=by kernel_rfl
theorem qdG(n:Nat)(x):qbT n x=(Option.bind (qci n x) fun y=>(some ((iGe y.1 (0:Int)),()))):=by kernel_rfl
theorem qhH(n:Nat)(x):qdE n x=(Option.bind (qbT n (x.1,())) fun y=>(some ((!y.1),()))):=by kernel_rfl
theorem qqj(n:Nat)(x):qkG n x=(Option.bind (qhk n (x.1.2.2.2.2.2.1,())) fun y=>(cond (!y.1) (some ((90:Int),())) (Option.bind (qdE n (x.1.2.2.2.2.2.2,(((),()),()))) fun y1=>(cond (!y1.1) (some ((91:Int),())) (Option.bind (qA n (x.1.1,((0:Int),((99999:Int),())))) fun y2=>(cond (!y2.1) (some ((93:Int),())) (Option.bind (qA n (x.1.2.1,((1:Int),((6:Int),())))) fun y3=>(cond (!y3.1) (some ((93:Int),())) (Option.bind (qA n (x.1.2.2.1,((1:Int),((100:Int),())))) fun y4=>(cond (!y4.1) (some ((93:Int),())) (cond (iGt (((List.length x.1.2.2.2.1):Nat):Int) (4:Int)) (some ((93:Int),())) (Option.bind (qdb n (x.1.2.2.2.1,(((),()),()))) fun y5=>(cond (!y5.1) (some ((93:Int),())) (cond (iGt (((List.length x.1.2.2.2.2.1):Nat):Int) (6:Int)) (some ((93:Int),())) (Option.bind (qd7 n (x.1.2.2.2.2.1,(((),()),()))) fun y6=>(cond (!y6.1) (some ((93:Int),())) (cond (iGt (((List.length x.1.2.2.2.2.2.2):Nat):Int) (6:Int)) (some ((93:Int),())) (Option.bind (qdl n (x.1.2.2.2.2.2.2,x)) fun y7=>(cond (!y7.1) (some ((93:Int),())) (some ((0:Int),()))))))))))))))))))))):=by kernel_rfl
end
end Go.Proofs.Ytbdockhccdkdiaa
