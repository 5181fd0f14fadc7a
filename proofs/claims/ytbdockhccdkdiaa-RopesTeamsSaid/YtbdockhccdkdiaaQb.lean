/- Texts DqR, DqV in one. -/
import Derived.Test.YtbdockhccdkdiaaNf
import Derived.Test.YtbdockhccdkdiaaQa
/- printed by gen_eqf.py: models at plain types, and what they are, by computing. -/
set_option linter.constructorNameAsVariable false
set_option linter.unusedSimpArgs false
set_option linter.unusedVariables false
set_option linter.unusedSectionVars false
namespace Go.Proofs.Ytbdockhccdkdiaa
open Go Go.Proofs Go.RowKit
set_option maxRecDepth 100000
noncomputable section
def qB(n:Nat)(x:(Int×(Int×(Int×Unit)))):(Option (Bool×Unit)):=(qcJ n).M x
def qhh(n:Nat)(x:((Int×Int)×(Int×(Int×Unit)))):(Option (Bool×Unit)):=(qjj n).M x
def qh(n:Nat)(x:(Int×(Int×(Int×Unit)))):(Option (Bool×Unit)):=(qdO n).M x
def qc3(n:Nat)(x:((Int×Int)×(Int×(Int×Unit)))):(Option (Bool×Unit)):=(qiO n).M x
def qha(n:Nat)(x:(Int×(Int×Unit))):(Option ((Int×Int)×Unit)):=(qg7 n).M x
def qf9(n:Nat)(x:Unit):(Option ((Int×(Int×(Int×((List Stay)×((List Int)×((Int×(Int×(Int×(List (Int×Int)))))×(List (Int×(Int×(Int×(List (Int×((Int×Int)×(Int×Int))))))))))))))×((List Stay)×Unit))):=(qij n).M x
def qfI(n:Nat)(x:((List Int)×((List Int)×Unit))):(Option (Bool×Unit)):=(qh4 n).M x
def qhi(n:Nat)(x:(Int×Unit)):(Option (Bool×Unit)):=(qmj n).M x
def qgj(n:Nat)(x:(Int×(Int×Unit))):(Option (Int×Unit)):=(qgi n).M x
def qly(n:Nat)(x:((List Stay)×(Int×(Int×Unit)))):(Option ((List Int)×(Int×Unit))):=(qoU n).M x
theorem qpB(n:Nat)(x):qB n x=(cond (iLe x.2.1 x.1) (some ((iLe x.1 x.2.2.1),())) (some (false,()))):=by kernel_rfl
theorem qo1(n:Nat)(x):qhh n x=(cond (iLe x.2.1 x.1.1) (cond (iLe x.1.1 x.1.2) (some ((iLe x.1.2 x.2.2.1),())) (some (false,()))) (some (false,()))):=by kernel_rfl
theorem qlz(n:Nat)(x):qh n x=(cond (iGe x.1 x.2.1) (some ((iLe x.1 x.2.2.1),())) (some (false,()))):=by kernel_rfl
theorem qlA(n:Nat)(x):qc3 n x=(cond (iGe x.1.1 x.2.1) (cond (iLe x.1.1 x.1.2) (some ((iLe x.1.2 x.2.2.1),())) (some (false,()))) (some (false,()))):=by kernel_rfl
theorem qo2(n:Nat)(x):qhi n x=(some ((iNe x.1 x.1),())):=by kernel_rfl
theorem qnQ(n:Nat)(x):qgj n x=(Option.bind (qhi n (x.1,())) fun y=>(Option.bind (qhi n x.2) fun y1=>(cond y.1 (cond y1.1 (some ((0:Int),())) (some ((Int.negSucc (0:Nat)),()))) (cond y1.1 (some ((1:Int),())) (cond (iLt x.1 x.2.1) (some ((Int.negSucc (0:Nat)),())) (cond (iGt x.1 x.2.1) (some ((1:Int),())) (some ((0:Int),())))))))):=by kernel_rfl
def qe6(n:Nat)(rec:((Int×(Int×((List (Int×Int))×(Int×(Int×Unit)))))→(Option (Int×Unit))))(s:(Int×(Int×((List (Int×Int))×(Int×(Int×Unit)))))):(Option (Int×Unit)):=(qjI n).step rec s
def qf0(n:Nat)(x:(((Int×(Int×(Int×(List (Int×Int)))))×Unit)×(Int×(Int×Unit)))):(Option (Int×Unit)):=(qkt n).M x
def qev(n:Nat)(rec:((Int×((List (Int×((Int×Int)×(Int×Int))))×(Int×(Int×(((Int×(Int×(Int×(List (Int×Int)))))×Unit)×((Int×Int)×Unit))))))→(Option ((Int×Int)×Unit))))(s:(Int×((List (Int×((Int×Int)×(Int×Int))))×(Int×(Int×(((Int×(Int×(Int×(List (Int×Int)))))×Unit)×((Int×Int)×Unit))))))):(Option ((Int×Int)×Unit)):=(qiR n).step rec s
def qe7(n:Nat)(x:(((Int×(Int×(Int×(List (Int×Int)))))×Unit)×((Int×(Int×(Int×(List (Int×((Int×Int)×(Int×Int)))))))×(Int×Unit)))):(Option ((Int×Int)×Unit)):=(qgJ n).M x
def qe2(n:Nat)(rec:((Int×(Int×((List (Int×Int))×(Int×(Int×((Int×(Int×(Int×(List (Int×Int)))))×Unit))))))→(Option (((Int×(Int×(Int×(List (Int×Int)))))×Unit)⊕(Bool×Unit)))))(s:(Int×(Int×((List (Int×Int))×(Int×(Int×((Int×(Int×(Int×(List (Int×Int)))))×Unit))))))):(Option (((Int×(Int×(Int×(List (Int×Int)))))×Unit)⊕(Bool×Unit))):=(qlu n).step rec s
def qjn(n:Nat)(x:((Int×(Int×(Int×(List (Int×Int)))))×Unit)):(Option (Bool×Unit)):=(qjk n).M x
def qkP(n:Nat)(x:((Int×((Int×Int)×(Int×Int)))×(Int×Unit))):(Option (Bool×(Int×Unit))):=(qeZ n).M x
def qer(n:Nat)(x:((Int×((Int×Int)×(Int×Int)))×(Int×Unit))):(Option (Bool×(Int×Unit))):=(qcY n).M x
def qH(n:Nat)(rec:(((List (Int×((Int×Int)×(Int×Int))))×(Int×(Int×(Int×Unit))))→(Option ((Int×Unit)⊕(Int×(Int×Unit))))))(s:((List (Int×((Int×Int)×(Int×Int))))×(Int×(Int×(Int×Unit))))):(Option ((Int×Unit)⊕(Int×(Int×Unit)))):=(qbN n).step rec s
def qbW(n:Nat)(x:((List (Int×((Int×Int)×(Int×Int))))×(Int×Unit))):(Option (Int×(Int×Unit))):=(qbT n).M x
def qby(n:Nat)(x:((List (Int×((Int×Int)×(Int×Int))))×(Int×Unit))):(Option (Bool×(Int×Unit))):=(qbx n).M x
def qP(n:Nat)(x:((List (Int×((Int×Int)×(Int×Int))))×(Int×Unit))):(Option (Bool×(Int×Unit))):=(qeL n).M x
def qj8(n:Nat)(x:((Int×(Int×(Int×(List (Int×((Int×Int)×(Int×Int)))))))×Unit)):(Option (Bool×Unit)):=(qfi n).M x
def qj9(n:Nat)(x:((Int×(Int×(Int×(List (Int×Int)))))×((Int×(Int×(Int×(List (Int×((Int×Int)×(Int×Int)))))))×(Int×Unit)))):(Option ((Int×Int)×(Int×Unit))):=(qm4 n).M x
def qeA(n:Nat)(x:(((Int×(Int×(Int×(List (Int×Int)))))×Unit)×((Int×(Int×(Int×(List (Int×((Int×Int)×(Int×Int)))))))×(Int×Unit)))):(Option (Int×Unit)):=(qku n).M x
def qgk(n:Nat)(x:(((Int×(Int×(Int×(List (Int×Int)))))×Unit)×((Int×(Int×(Int×(List (Int×((Int×Int)×(Int×Int)))))))×(Int×(Int×Unit))))):(Option (Bool×Unit)):=(qkM n).M x
def qlB(n:Nat)(x:(Stay×Unit)):(Option (Bool×Unit)):=(qfn n).M x
def qlC(n:Nat)(x:(Int×Unit)):(Option (Bool×Unit)):=(qfo n).M x
def qlD(n:Nat)(x:((Int×(Int×(Int×(List (Int×((Int×Int)×(Int×Int)))))))×((Int×(Int×(Int×((List Stay)×((List Int)×((Int×(Int×(Int×(List (Int×Int)))))×(List (Int×(Int×(Int×(List (Int×((Int×Int)×(Int×Int))))))))))))))×Unit))):(Option (Bool×((Int×(Int×(Int×((List Stay)×((List Int)×((Int×(Int×(Int×(List (Int×Int)))))×(List (Int×(Int×(Int×(List (Int×((Int×Int)×(Int×Int))))))))))))))×Unit))):=(qfp n).M x
def qes(n:Nat)(x:(Stay×Unit)):(Option (Bool×Unit)):=(qcZ n).M x
def qD(n:Nat)(rec:(((List Stay)×(Int×(Int×Unit)))→(Option (Unit⊕(Int×Unit)))))(s:((List Stay)×(Int×(Int×Unit)))):(Option (Unit⊕(Int×Unit))):=(qbC n).step rec s
def qbQ(n:Nat)(x:((List Stay)×Unit)):(Option (Int×Unit)):=(qbO n).M x
def qbu(n:Nat)(x:((List Stay)×Unit)):(Option (Bool×Unit)):=(qbt n).M x
def qc8(n:Nat)(x:((List Stay)×((Unit×Unit)×Unit))):(Option (Bool×Unit)):=(qeM n).M x
def qfr(n:Nat)(x:(Int×Unit)):(Option (Bool×Unit)):=(qdH n).M x
def q8(n:Nat)(rec:(((List Int)×(Int×(Int×Unit)))→(Option (Unit⊕(Int×Unit)))))(s:((List Int)×(Int×(Int×Unit)))):(Option (Unit⊕(Int×Unit))):=(qcA n).step rec s
def qcE(n:Nat)(x:((List Int)×Unit)):(Option (Int×Unit)):=(qcD n).M x
def qcu(n:Nat)(x:((List Int)×Unit)):(Option (Bool×Unit)):=(qcs n).M x
def qd4(n:Nat)(x:((List Int)×((Unit×Unit)×Unit))):(Option (Bool×Unit)):=(qfX n).M x
def qeB(n:Nat)(x:((Int×(Int×(Int×(List (Int×((Int×Int)×(Int×Int)))))))×((Int×(Int×(Int×((List Stay)×((List Int)×((Int×(Int×(Int×(List (Int×Int)))))×(List (Int×(Int×(Int×(List (Int×((Int×Int)×(Int×Int))))))))))))))×Unit))):(Option (Bool×((Int×(Int×(Int×((List Stay)×((List Int)×((Int×(Int×(Int×(List (Int×Int)))))×(List (Int×(Int×(Int×(List (Int×((Int×Int)×(Int×Int))))))))))))))×Unit))):=(qce n).M x
def qK(n:Nat)(rec:(((List (Int×(Int×(Int×(List (Int×((Int×Int)×(Int×Int))))))))×(Int×(Int×((Int×(Int×(Int×((List Stay)×((List Int)×((Int×(Int×(Int×(List (Int×Int)))))×(List (Int×(Int×(Int×(List (Int×((Int×Int)×(Int×Int))))))))))))))×Unit))))→(Option (((Int×(Int×(Int×((List Stay)×((List Int)×((Int×(Int×(Int×(List (Int×Int)))))×(List (Int×(Int×(Int×(List (Int×((Int×Int)×(Int×Int))))))))))))))×Unit)⊕(Int×((Int×(Int×(Int×((List Stay)×((List Int)×((Int×(Int×(Int×(List (Int×Int)))))×(List (Int×(Int×(Int×(List (Int×((Int×Int)×(Int×Int))))))))))))))×Unit))))))(s:((List (Int×(Int×(Int×(List (Int×((Int×Int)×(Int×Int))))))))×(Int×(Int×((Int×(Int×(Int×((List Stay)×((List Int)×((Int×(Int×(Int×(List (Int×Int)))))×(List (Int×(Int×(Int×(List (Int×((Int×Int)×(Int×Int))))))))))))))×Unit))))):(Option (((Int×(Int×(Int×((List Stay)×((List Int)×((Int×(Int×(Int×(List (Int×Int)))))×(List (Int×(Int×(Int×(List (Int×((Int×Int)×(Int×Int))))))))))))))×Unit)⊕(Int×((Int×(Int×(Int×((List Stay)×((List Int)×((Int×(Int×(Int×(List (Int×Int)))))×(List (Int×(Int×(Int×(List (Int×((Int×Int)×(Int×Int))))))))))))))×Unit)))):=(qbV n).step rec s
def qb9(n:Nat)(x:((List (Int×(Int×(Int×(List (Int×((Int×Int)×(Int×Int))))))))×((Int×(Int×(Int×((List Stay)×((List Int)×((Int×(Int×(Int×(List (Int×Int)))))×(List (Int×(Int×(Int×(List (Int×((Int×Int)×(Int×Int))))))))))))))×Unit))):(Option (Int×((Int×(Int×(Int×((List Stay)×((List Int)×((Int×(Int×(Int×(List (Int×Int)))))×(List (Int×(Int×(Int×(List (Int×((Int×Int)×(Int×Int))))))))))))))×Unit))):=(qb6 n).M x
def qbE(n:Nat)(x:((List (Int×(Int×(Int×(List (Int×((Int×Int)×(Int×Int))))))))×((Int×(Int×(Int×((List Stay)×((List Int)×((Int×(Int×(Int×(List (Int×Int)))))×(List (Int×(Int×(Int×(List (Int×((Int×Int)×(Int×Int))))))))))))))×Unit))):(Option (Bool×((Int×(Int×(Int×((List Stay)×((List Int)×((Int×(Int×(Int×(List (Int×Int)))))×(List (Int×(Int×(Int×(List (Int×((Int×Int)×(Int×Int))))))))))))))×Unit))):=(qbD n).M x
def qdi(n:Nat)(x:((List (Int×(Int×(Int×(List (Int×((Int×Int)×(Int×Int))))))))×((Int×(Int×(Int×((List Stay)×((List Int)×((Int×(Int×(Int×(List (Int×Int)))))×(List (Int×(Int×(Int×(List (Int×((Int×Int)×(Int×Int))))))))))))))×Unit))):(Option (Bool×((Int×(Int×(Int×((List Stay)×((List Int)×((Int×(Int×(Int×(List (Int×Int)))))×(List (Int×(Int×(Int×(List (Int×((Int×Int)×(Int×Int))))))))))))))×Unit))):=(qe0 n).M x
def qeO(n:Nat)(x:((Int×(Int×(Int×(List (Int×((Int×Int)×(Int×Int)))))))×Unit)):(Option (Bool×Unit)):=(qc7 n).M x
def qO(n:Nat)(rec:(((List (Int×(Int×(Int×(List (Int×((Int×Int)×(Int×Int))))))))×(Int×(Int×Unit)))→(Option (Unit⊕(Int×Unit)))))(s:((List (Int×(Int×(Int×(List (Int×((Int×Int)×(Int×Int))))))))×(Int×(Int×Unit)))):(Option (Unit⊕(Int×Unit))):=(qb8 n).step rec s
def qcg(n:Nat)(x:((List (Int×(Int×(Int×(List (Int×((Int×Int)×(Int×Int))))))))×Unit)):(Option (Int×Unit)):=(qcf n).M x
def qbR(n:Nat)(x:((List (Int×(Int×(Int×(List (Int×((Int×Int)×(Int×Int))))))))×Unit)):(Option (Bool×Unit)):=(qbP n).M x
def qdA(n:Nat)(x:((List (Int×(Int×(Int×(List (Int×((Int×Int)×(Int×Int))))))))×((Unit×Unit)×Unit))):(Option (Bool×Unit)):=(qff n).M x
def qiz(n:Nat)(x:((Int×(Int×(Int×((List Stay)×((List Int)×((Int×(Int×(Int×(List (Int×Int)))))×(List (Int×(Int×(Int×(List (Int×((Int×Int)×(Int×Int))))))))))))))×Unit)):(Option (Int×Unit)):=(qkG n).M x
theorem qh6(n:Nat)(rec)(s):qe6 n rec s=(cond (iLt s.2.2.2.2.1 s.2.2.2.1) (Option.bind (lat s.2.2.1 s.2.2.2.2.1) fun y=>(cond (iLe y.1 s.1) (rec (s.1,(y.2,(s.2.2.1,(s.2.2.2.1,((iW (iAdd s.2.2.2.2.1 (1:Int))),())))))) (rec (s.1,(s.2.1,(s.2.2.1,(s.2.2.2.1,((iW (iAdd s.2.2.2.2.1 (1:Int))),())))))))) (some (s.2.1,()))):=by kernel_rfl
theorem qm8(n:Nat)(x):qf0 n x=(Option.bind (qbA (iNe x.2.2.1 (0:Int))) fun _=>(Option.bind (ql n (qe6 n) ((iMin (200:Int) (iW (Int.tdiv (iW (iSub (iW (iAdd (iW (iMul (100:Int) x.2.1)) x.2.2.1)) (1:Int))) x.2.2.1))),((0:Int),(x.1.1.2.2.2,((((List.length x.1.1.2.2.2):Nat):Int),((0:Int),())))))) fun y1=>(some y1))):=by kernel_rfl
theorem qhj(n:Nat)(rec)(s):qev n rec s=(cond (iLt s.2.2.2.1 s.2.2.1) (Option.bind (lat s.2.1 s.2.2.2.1) fun y=>(cond (iLe y.1 s.1) (Option.bind (qf0 n (s.2.2.2.2.1,(y.2.1.1,(y.2.2.2,())))) fun y1=>(Option.bind (qf0 n (s.2.2.2.2.1,(y.2.1.2,(y.2.2.1,())))) fun y2=>(rec (s.1,(s.2.1,(s.2.2.1,((iW (iAdd s.2.2.2.1 (1:Int))),(s.2.2.2.2.1,(((iW (iAdd s.2.2.2.2.2.1.1 y1.1)),(iW (iAdd s.2.2.2.2.2.1.2 y2.1))),()))))))))) (rec (s.1,(s.2.1,(s.2.2.1,((iW (iAdd s.2.2.2.1 (1:Int))),s.2.2.2.2))))))) (some s.2.2.2.2.2)):=by kernel_rfl
theorem qlP(n:Nat)(x):qe7 n x=(Option.bind (ql n (qev n) (x.2.2.1,(x.2.1.2.2.2,((((List.length x.2.1.2.2.2):Nat):Int),((0:Int),(x.1,(((0:Int),(0:Int)),()))))))) fun y=>(some y)):=by kernel_rfl
theorem qjo(n:Nat)(rec)(s):qe2 n rec s=(cond (iLt s.2.2.2.2.1 s.2.2.2.1) (Option.bind (lat s.2.2.1 s.2.2.2.2.1) fun y=>(Option.bind (qB n (y.1,((iW (iAdd s.1 (1:Int))),((200:Int),())))) fun y1=>(cond (!y1.1) (some (Sum.inr (false,()))) (Option.bind (qB n (y.2,(s.2.1,((100:Int),())))) fun y2=>(cond (!y2.1) (some (Sum.inr (false,()))) (rec (y.1,(y.2,(s.2.2.1,(s.2.2.2.1,((iW (iAdd s.2.2.2.2.1 (1:Int))),s.2.2.2.2.2))))))))))) (some (Sum.inl s.2.2.2.2.2))):=by kernel_rfl
theorem qo3(n:Nat)(x):qjn n x=(Option.bind (ql n (qe2 n) ((0:Int),((0:Int),(x.1.2.2.2,((((List.length x.1.2.2.2):Nat):Int),((0:Int),x)))))) fun y=>(Sum.elim (fun a=>(Option.bind (qB n (a.1.1,((1:Int),((10000:Int),())))) fun y1=>(cond y1.1 (Option.bind (qB n (a.1.2.1,((1:Int),((10000:Int),())))) fun y2=>(cond y2.1 (Option.bind (qB n (a.1.2.2.1,((0:Int),((100:Int),())))) fun y3=>(cond y3.1 (some ((iLe (((List.length a.1.2.2.2):Nat):Int) (6:Int)),())) (some (false,())))) (some (false,())))) (some (false,()))))) (fun b=>(some b)) y)):=by kernel_rfl
theorem qnR(n:Nat)(x):qkP n x=(Option.bind (qB n (x.1.1,(x.2.1,((99999:Int),())))) fun y=>(cond y.1 (Option.bind (qhh n (x.1.2.1,((1:Int),((1000:Int),())))) fun y1=>(cond y1.1 (Option.bind (qhh n (x.1.2.2,((1:Int),((1000:Int),())))) fun y2=>(some (y2.1,(x.1.1,())))) (some (false,(x.1.1,()))))) (some (false,(x.1.1,()))))):=by kernel_rfl
theorem qgK(n:Nat)(x):qer n x=(Option.bind (qkP n x) fun y=>(some ((!y.1),y.2))):=by kernel_rfl
theorem qbo(n:Nat)(rec)(s):qH n rec s=(cond (iLt s.2.2.1 s.2.1) (Option.bind (lat s.1 s.2.2.1) fun y=>(Option.bind (qer n (y,s.2.2.2)) fun y1=>(cond y1.1 (some (Sum.inr (s.2.2.1,y1.2))) (rec (s.1,(s.2.1,((iW (iAdd s.2.2.1 (1:Int))),y1.2))))))) (some (Sum.inl s.2.2.2))):=by kernel_rfl
theorem qdE(n:Nat)(x):qbW n x=(Option.bind (ql n (qH n) (x.1,((((List.length x.1):Nat):Int),((0:Int),x.2)))) fun y=>(Sum.elim (fun a=>(some ((Int.negSucc (0:Nat)),a))) (fun b=>(some b)) y)):=by kernel_rfl
theorem qdj(n:Nat)(x):qby n x=(Option.bind (qbW n x) fun y=>(some ((iGe y.1 (0:Int)),y.2))):=by kernel_rfl
theorem qhb(n:Nat)(x):qP n x=(Option.bind (qby n x) fun y=>(some ((!y.1),y.2))):=by kernel_rfl
theorem qpC(n:Nat)(x):qj8 n x=(Option.bind (qB n (x.1.1,((0:Int),((99999:Int),())))) fun y=>(cond (!y.1) (some (false,())) (cond (iNe x.1.2.1 (Int.negSucc (0:Nat))) (Option.bind (qB n (x.1.2.1,(x.1.1,((99999:Int),())))) fun y1=>(cond (!y1.1) (some (false,())) (Option.bind (qB n (x.1.2.2.1,((1:Int),((100:Int),())))) fun y2=>(cond (!y2.1) (some (false,())) (cond (iGt (((List.length x.1.2.2.2):Nat):Int) (10:Int)) (some (false,())) (cond (iEq x.1.2.1 (Int.negSucc (0:Nat))) (cond (iGt (((List.length x.1.2.2.2):Nat):Int) (0:Int)) (some (false,())) (Option.bind (qP n (x.1.2.2.2,(x.1.2.1,()))) fun y3=>(some (y3.1,())))) (Option.bind (qP n (x.1.2.2.2,(x.1.2.1,()))) fun y3=>(some (y3.1,()))))))))) (Option.bind (qB n (x.1.2.2.1,((1:Int),((100:Int),())))) fun y1=>(cond (!y1.1) (some (false,())) (cond (iGt (((List.length x.1.2.2.2):Nat):Int) (10:Int)) (some (false,())) (cond (iEq x.1.2.1 (Int.negSucc (0:Nat))) (cond (iGt (((List.length x.1.2.2.2):Nat):Int) (0:Int)) (some (false,())) (Option.bind (qP n (x.1.2.2.2,(x.1.2.1,()))) fun y2=>(some (y2.1,())))) (Option.bind (qP n (x.1.2.2.2,(x.1.2.1,()))) fun y2=>(some (y2.1,())))))))))):=by kernel_rfl
theorem qiV(n:Nat)(x):qeA n x=(cond (iGe x.2.2.1 (0:Int)) (some ((iMin (iMin (99999:Int) (iW (iAdd x.2.1.1 x.1.1.1))) (iW (iAdd x.2.2.1 x.1.1.2.1))),())) (some ((iMin (99999:Int) (iW (iAdd x.2.1.1 x.1.1.1))),()))):=by kernel_rfl
theorem qnS(n:Nat)(x):qgk n x=(cond (iGt x.2.1.2.1 x.2.2.1) (Option.bind (qeA n (x.1,(x.2.1,((Int.negSucc (0:Nat)),())))) fun y=>(cond (iLe x.2.2.1 y.1) (some ((iLe x.2.2.2.1 x.1.1.2.2.1),())) (some (false,())))) (Option.bind (qeA n (x.1,(x.2.1,(x.2.1.2.1,())))) fun y=>(cond (iLe x.2.2.1 y.1) (some ((iLe x.2.2.2.1 x.1.1.2.2.1),())) (some (false,()))))):=by kernel_rfl
theorem qog(n:Nat)(x):qlB n x=(Option.bind (qB n (x.1.1,((1:Int),((6:Int),())))) fun y=>(cond y.1 (Option.bind (qB n (x.1.2.1,((0:Int),((99999:Int),())))) fun y1=>(cond y1.1 (Option.bind (qB n (x.1.2.2,((0:Int),((20:Int),())))) fun y2=>(some y2)) (some (false,())))) (some (false,())))):=by kernel_rfl
theorem qoh(n:Nat)(x):qlC n x=(Option.bind (qB n (x.1,((1:Int),((20:Int),())))) fun y=>(some y)):=by kernel_rfl
theorem qoi(n:Nat)(x):qlD n x=(some ((iLe x.1.1 x.2.1.1),x.2)):=by kernel_rfl
theorem qgL(n:Nat)(x):qes n x=(Option.bind (qlB n x) fun y=>(some ((!y.1),()))):=by kernel_rfl
theorem qbk(n:Nat)(rec)(s):qD n rec s=(cond (iLt s.2.2.1 s.2.1) (Option.bind (lat s.1 s.2.2.1) fun y=>(Option.bind (qes n (y,())) fun y1=>(cond y1.1 (some (Sum.inr s.2.2)) (rec (s.1,(s.2.1,((iW (iAdd s.2.2.1 (1:Int))),()))))))) (some (Sum.inl ()))):=by kernel_rfl
theorem qdB(n:Nat)(x):qbQ n x=(Option.bind (ql n (qD n) (x.1,((((List.length x.1):Nat):Int),((0:Int),())))) fun y=>(Sum.elim (fun _=>(some ((Int.negSucc (0:Nat)),()))) (fun b=>(some b)) y)):=by kernel_rfl
theorem qdb(n:Nat)(x):qbu n x=(Option.bind (qbQ n x) fun y=>(some ((iGe y.1 (0:Int)),()))):=by kernel_rfl
theorem qhc(n:Nat)(x):qc8 n x=(Option.bind (qbu n (x.1,())) fun y=>(some ((!y.1),()))):=by kernel_rfl
theorem qh2(n:Nat)(x):qfr n x=(Option.bind (qlC n x) fun y=>(some ((!y.1),()))):=by kernel_rfl
theorem qcm(n:Nat)(rec)(s):q8 n rec s=(cond (iLt s.2.2.1 s.2.1) (Option.bind (lat s.1 s.2.2.1) fun y=>(Option.bind (qfr n (y,())) fun y1=>(cond y1.1 (some (Sum.inr s.2.2)) (rec (s.1,(s.2.1,((iW (iAdd s.2.2.1 (1:Int))),()))))))) (some (Sum.inl ()))):=by kernel_rfl
theorem qep(n:Nat)(x):qcE n x=(Option.bind (ql n (q8 n) (x.1,((((List.length x.1):Nat):Int),((0:Int),())))) fun y=>(Sum.elim (fun _=>(some ((Int.negSucc (0:Nat)),()))) (fun b=>(some b)) y)):=by kernel_rfl
theorem qea(n:Nat)(x):qcu n x=(Option.bind (qcE n x) fun y=>(some ((iGe y.1 (0:Int)),()))):=by kernel_rfl
theorem qim(n:Nat)(x):qd4 n x=(Option.bind (qcu n (x.1,())) fun y=>(some ((!y.1),()))):=by kernel_rfl
theorem qgX(n:Nat)(x):qeB n x=(Option.bind (qlD n x) fun y=>(some ((!y.1),y.2))):=by kernel_rfl
theorem qbv(n:Nat)(rec)(s):qK n rec s=(cond (iLt s.2.2.1 s.2.1) (Option.bind (lat s.1 s.2.2.1) fun y=>(Option.bind (qeB n (y,s.2.2.2)) fun y1=>(cond y1.1 (some (Sum.inr (s.2.2.1,y1.2))) (rec (s.1,(s.2.1,((iW (iAdd s.2.2.1 (1:Int))),y1.2))))))) (some (Sum.inl s.2.2.2))):=by kernel_rfl
theorem qdJ(n:Nat)(x):qb9 n x=(Option.bind (ql n (qK n) (x.1,((((List.length x.1):Nat):Int),((0:Int),x.2)))) fun y=>(Sum.elim (fun a=>(some ((Int.negSucc (0:Nat)),a))) (fun b=>(some b)) y)):=by kernel_rfl
theorem qdq(n:Nat)(x):qbE n x=(Option.bind (qb9 n x) fun y=>(some ((iGe y.1 (0:Int)),y.2))):=by kernel_rfl
theorem qhs(n:Nat)(x):qdi n x=(Option.bind (qbE n x) fun y=>(some ((!y.1),y.2))):=by kernel_rfl
theorem qhd(n:Nat)(x):qeO n x=(Option.bind (qj8 n x) fun y=>(some ((!y.1),()))):=by kernel_rfl
theorem qbz(n:Nat)(rec)(s):qO n rec s=(cond (iLt s.2.2.1 s.2.1) (Option.bind (lat s.1 s.2.2.1) fun y=>(Option.bind (qeO n (y,())) fun y1=>(cond y1.1 (some (Sum.inr s.2.2)) (rec (s.1,(s.2.1,((iW (iAdd s.2.2.1 (1:Int))),()))))))) (some (Sum.inl ()))):=by kernel_rfl
theorem qdP(n:Nat)(x):qcg n x=(Option.bind (ql n (qO n) (x.1,((((List.length x.1):Nat):Int),((0:Int),())))) fun y=>(Sum.elim (fun _=>(some ((Int.negSucc (0:Nat)),()))) (fun b=>(some b)) y)):=by kernel_rfl
theorem qdC(n:Nat)(x):qbR n x=(Option.bind (qcg n x) fun y=>(some ((iGe y.1 (0:Int)),()))):=by kernel_rfl
theorem qhF(n:Nat)(x):qdA n x=(Option.bind (qbR n (x.1,())) fun y=>(some ((!y.1),()))):=by kernel_rfl
theorem qqc(n:Nat)(x):qiz n x=(Option.bind (qjn n (x.1.2.2.2.2.2.1,())) fun y=>(cond (!y.1) (some ((90:Int),())) (Option.bind (qdA n (x.1.2.2.2.2.2.2,(((),()),()))) fun y1=>(cond (!y1.1) (some ((91:Int),())) (Option.bind (qB n (x.1.1,((0:Int),((99999:Int),())))) fun y2=>(cond (!y2.1) (some ((93:Int),())) (Option.bind (qB n (x.1.2.1,((1:Int),((6:Int),())))) fun y3=>(cond (!y3.1) (some ((93:Int),())) (Option.bind (qB n (x.1.2.2.1,((1:Int),((100:Int),())))) fun y4=>(cond (!y4.1) (some ((93:Int),())) (cond (iGt (((List.length x.1.2.2.2.1):Nat):Int) (4:Int)) (some ((93:Int),())) (Option.bind (qc8 n (x.1.2.2.2.1,(((),()),()))) fun y5=>(cond (!y5.1) (some ((93:Int),())) (cond (iGt (((List.length x.1.2.2.2.2.1):Nat):Int) (6:Int)) (some ((93:Int),())) (Option.bind (qd4 n (x.1.2.2.2.2.1,(((),()),()))) fun y6=>(cond (!y6.1) (some ((93:Int),())) (cond (iGt (((List.length x.1.2.2.2.2.2.2):Nat):Int) (6:Int)) (some ((93:Int),())) (Option.bind (qdi n (x.1.2.2.2.2.2.2,x)) fun y7=>(cond (!y7.1) (some ((93:Int),())) (some ((0:Int),()))))))))))))))))))))):=by kernel_rfl
end
end Go.Proofs.Ytbdockhccdkdiaa
