/- Texts DqR, DqV in one. -/
import Derived.Test.YtbdockhccdkdiaaGreatNf
import Derived.Test.YtbdockhccdkdiaaGreatQa
/- printed by gen_eqf.py: models at plain types, and what they are, by computing. -/
set_option linter.constructorNameAsVariable false
set_option linter.unusedSimpArgs false
set_option linter.unusedVariables false
set_option linter.unusedSectionVars false
namespace Go.Proofs.YtbdockhccdkdiaaGreat
open Go Go.Proofs Go.RowKit
set_option maxRecDepth 100000
noncomputable section
def qeD(n:Nat)(x:(Int×(Int×(Int×Unit)))):(Option (Bool×Unit)):=(qbm n).M x
def qis(n:Nat)(x:((Int×Int)×(Int×(Int×Unit)))):(Option (Bool×Unit)):=(qgA n).M x
def qee(n:Nat)(x:(Int×(Int×(Int×Unit)))):(Option (Bool×Unit)):=(qfG n).M x
def qfM(n:Nat)(x:((Int×Int)×(Int×(Int×Unit)))):(Option (Bool×Unit)):=(qhU n).M x
def qgw(n:Nat)(x:(Int×(Int×Unit))):(Option ((Int×Int)×Unit)):=(qgt n).M x
def qfm(n:Nat)(x:Unit):(Option ((Int×(Int×(Int×((List Stay)×((List Int)×((Int×(Int×(Int×(List (Int×Int)))))×(List (Int×(Int×(Int×(List (Int×((Int×Int)×(Int×Int))))))))))))))×((List Stay)×Unit))):=(qhp n).M x
def qew(n:Nat)(rec:(((List Int)×((List Int)×(Int×Unit)))→(Option (Unit⊕(Bool×Unit)))))(s:((List Int)×((List Int)×(Int×Unit)))):(Option (Unit⊕(Bool×Unit))):=(qgT n).step rec s
def qba(n:Nat)(x:((List Int)×((List Int)×Unit))):(Option (Bool×Unit)):=(qeY n).M x
def qdk(n:Nat)(x:(Int×Unit)):(Option (Bool×Unit)):=(qin n).M x
def qi5(n:Nat)(x:(Int×(Int×Unit))):(Option (Bool×Unit)):=(qi2 n).M x
def qfC(n:Nat)(x:(Int×(Int×Unit))):(Option (Int×Unit)):=(qfA n).M x
def qdU(n:Nat)(rec:(((List Int)×((List Int)×((List Int)×(Int×(Int×Unit)))))→(Option (((List Int)×((List Int)×Unit))⊕(Int×Unit)))))(s:((List Int)×((List Int)×((List Int)×(Int×(Int×Unit)))))):(Option (((List Int)×((List Int)×Unit))⊕(Int×Unit))):=(qhW n).step rec s
def qgb(n:Nat)(x:((List Int)×((List Int)×Unit))):(Option (Int×Unit)):=(qf6 n).M x
def qex(n:Nat)(rec:((Int×((List Int)×(Int×(Int×((List Int)×Unit)))))→(Option ((List Int)×Unit))))(s:(Int×((List Int)×(Int×(Int×((List Int)×Unit)))))):(Option ((List Int)×Unit)):=(qiL n).step rec s
def qe9(n:Nat)(x:((List Int)×(Int×Unit))):(Option ((List Int)×Unit)):=(qe7 n).M x
def qkj(n:Nat)(x:((List Stay)×(Int×(Int×Unit)))):(Option ((List Int)×(Int×Unit))):=(qne n).M x
theorem qnX(n:Nat)(x):qeD n x=(cond (iLe x.2.1 x.1) (some ((iLe x.1 x.2.2.1),())) (some (false,()))):=by kernel_rfl
theorem qnm(n:Nat)(x):qis n x=(cond (iLe x.2.1 x.1.1) (cond (iLe x.1.1 x.1.2) (some ((iLe x.1.2 x.2.2.1),())) (some (false,()))) (some (false,()))):=by kernel_rfl
theorem qkk(n:Nat)(x):qee n x=(cond (iGe x.1 x.2.1) (some ((iLe x.1 x.2.2.1),())) (some (false,()))):=by kernel_rfl
theorem qkl(n:Nat)(x):qfM n x=(cond (iGe x.1.1 x.2.1) (cond (iLe x.1.1 x.1.2) (some ((iLe x.1.2 x.2.2.1),())) (some (false,()))) (some (false,()))):=by kernel_rfl
theorem qfN(n:Nat)(rec)(s):qew n rec s=(cond (iLt s.2.2.1 (((List.length s.1):Nat):Int)) (Option.bind (lat s.1 s.2.2.1) fun y=>(Option.bind (lat s.2.1 s.2.2.1) fun y1=>(cond (iNe y y1) (some (Sum.inr (false,()))) (rec (s.1,(s.2.1,((iW (iAdd s.2.2.1 (1:Int))),()))))))) (some (Sum.inl ()))):=by kernel_rfl
theorem qjE(n:Nat)(x):qba n x=(cond (iNe (((List.length x.1):Nat):Int) (((List.length x.2.1):Nat):Int)) (some (false,())) (Option.bind (qn n (qew n) (x.1,(x.2.1,((0:Int),())))) fun y=>(Sum.elim (fun _=>(some (true,()))) (fun b=>(some b)) y))):=by kernel_rfl
theorem qju(n:Nat)(x):qdk n x=(some ((iNe x.1 x.1),())):=by kernel_rfl
theorem qnY(n:Nat)(x):qi5 n x=(Option.bind (qdk n (x.1,())) fun y=>(cond y.1 (Option.bind (qdk n x.2) fun y1=>(cond (!y1.1) (some (true,())) (some ((iLt x.1 x.2.1),())))) (some ((iLt x.1 x.2.1),())))):=by kernel_rfl
theorem qmm(n:Nat)(x):qfC n x=(Option.bind (qdk n (x.1,())) fun y=>(Option.bind (qdk n x.2) fun y1=>(cond y.1 (cond y1.1 (some ((0:Int),())) (some ((Int.negSucc (0:Nat)),()))) (cond y1.1 (some ((1:Int),())) (cond (iLt x.1 x.2.1) (some ((Int.negSucc (0:Nat)),())) (cond (iGt x.1 x.2.1) (some ((1:Int),())) (some ((0:Int),())))))))):=by kernel_rfl
theorem qgB(n:Nat)(rec)(s):qdU n rec s=(cond (iLt s.2.2.2.2.1 s.2.2.2.1) (Option.bind (lat s.2.2.1 s.2.2.2.2.1) fun y=>(cond (iGe s.2.2.2.2.1 (((List.length s.2.1):Nat):Int)) (some (Sum.inr ((1:Int),()))) (Option.bind (lat s.2.1 s.2.2.2.2.1) fun y1=>(Option.bind (qfC n (y,(y1,()))) fun y2=>(cond (iNe y2.1 (0:Int)) (some (Sum.inr y2)) (rec (s.1,(s.2.1,(s.2.2.1,(s.2.2.2.1,((iW (iAdd s.2.2.2.2.1 (1:Int))),()))))))))))) (some (Sum.inl (s.1,(s.2.1,()))))):=by kernel_rfl
theorem qkw(n:Nat)(x):qgb n x=(Option.bind (qn n (qdU n) (x.1,(x.2.1,(x.1,((((List.length x.1):Nat):Int),((0:Int),())))))) fun y=>(Sum.elim (fun a=>(cond (iLt (((List.length a.1):Nat):Int) (((List.length a.2.1):Nat):Int)) (some ((Int.negSucc (0:Nat)),())) (some ((0:Int),())))) (fun b=>(some b)) y)):=by kernel_rfl
theorem qhg(n:Nat)(rec)(s):qex n rec s=(cond (iLt s.2.2.2.1 s.2.2.1) (Option.bind (lat s.2.1 s.2.2.2.1) fun y=>(Option.bind (qu (iSh .i64 s.2.2.2.1)) fun _=>(cond (iEq (bits .and .i64 (iShr s.1 s.2.2.2.1) (1:Int)) (1:Int)) (Option.bind (qu (Nat.ble (nAdd (List.length s.2.2.2.2.1) (1:Nat)) (17592186044416:Nat))) fun _=>(rec (s.1,(s.2.1,(s.2.2.1,((iW (iAdd s.2.2.2.1 (1:Int))),((List.append s.2.2.2.2.1 (y::[])),()))))))) (rec (s.1,(s.2.1,(s.2.2.1,((iW (iAdd s.2.2.2.1 (1:Int))),s.2.2.2.2)))))))) (some s.2.2.2.2)):=by kernel_rfl
theorem qlF(n:Nat)(x):qe9 n x=(Option.bind (qn n (qex n) (x.2.1,(x.1,((((List.length x.1):Nat):Int),((0:Int),([],())))))) fun y=>(some y)):=by kernel_rfl
def qi6(n:Nat)(x:((Int×(Int×(Int×(List (Int×Int)))))×((Int×(Int×(Int×(List (Int×((Int×Int)×(Int×Int)))))))×(Int×Unit)))):(Option ((Int×Int)×(Int×Unit))):=(qly n).M x
end
end Go.Proofs.YtbdockhccdkdiaaGreat
