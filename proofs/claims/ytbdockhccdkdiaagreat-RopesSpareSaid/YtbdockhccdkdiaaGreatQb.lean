/- Texts DqR, DqV in one. -/
import Derived.Test.YtbdockhccdkdiaaGreatNf
import Derived.Test.YtbdockhccdkdiaaGreatQa
/- printed by gen_eqf.py: models at plain types, and what they are, by computing. -/
set_option linter.constructorNameAsVariable false
set_option linter.unusedSimpArgs false
set_option linter.unusedVariables false
set_option linter.unusedSectionVars false
namespace Go.Proofs.YtbdockhccdkdiaaGreat
open Go Go.Proofs Go.RowKit
set_option maxRecDepth 100000
noncomputable section
def qeL(n:Nat)(x:(Int×(Int×(Int×Unit)))):(Option (Bool×Unit)):=(qbo n).M x
def qix(n:Nat)(x:((Int×Int)×(Int×(Int×Unit)))):(Option (Bool×Unit)):=(qgK n).M x
def qfW(n:Nat)(x:(Int×(Int×(Int×Unit)))):(Option (Bool×Unit)):=(qh2 n).M x
def qfX(n:Nat)(x:((Int×Int)×(Int×(Int×Unit)))):(Option (Bool×Unit)):=(qh3 n).M x
def qgH(n:Nat)(x:(Int×(Int×Unit))):(Option ((Int×Int)×Unit)):=(qgE n).M x
def qfw(n:Nat)(x:Unit):(Option ((Int×(Int×(Int×((List Stay)×((List Int)×((Int×(Int×(Int×(List (Int×Int)))))×(List (Int×(Int×(Int×(List (Int×((Int×Int)×(Int×Int))))))))))))))×((List Stay)×Unit))):=(qhy n).M x
def qe5(n:Nat)(x:((List Int)×((List Int)×Unit))):(Option (Bool×Unit)):=(qhn n).M x
def qek(n:Nat)(rec:((Int×(Int×(Int×(Int×Unit))))→(Option (Int×Unit))))(s:(Int×(Int×(Int×(Int×Unit))))):(Option (Int×Unit)):=(qir n).step rec s
def qcN(n:Nat)(x:(Int×(Int×Unit))):(Option (Int×Unit)):=(qiM n).M x
def qdz(n:Nat)(x:(Int×Unit)):(Option (Bool×Unit)):=(qis n).M x
def qi8(n:Nat)(x:(Int×(Int×Unit))):(Option (Bool×Unit)):=(qi5 n).M x
def qfK(n:Nat)(x:(Int×(Int×Unit))):(Option (Int×Unit)):=(qfI n).M x
def qd4(n:Nat)(rec:(((List Int)×((List Int)×((List Int)×(Int×(Int×Unit)))))→(Option (((List Int)×((List Int)×Unit))⊕(Int×Unit)))))(s:((List Int)×((List Int)×((List Int)×(Int×(Int×Unit)))))):(Option (((List Int)×((List Int)×Unit))⊕(Int×Unit))):=(qh5 n).step rec s
def qgm(n:Nat)(x:((List Int)×((List Int)×Unit))):(Option (Int×Unit)):=(qgh n).M x
def qeC(n:Nat)(rec:((Int×((List Int)×(Int×(Int×((List Int)×Unit)))))→(Option ((List Int)×Unit))))(s:(Int×((List Int)×(Int×(Int×((List Int)×Unit)))))):(Option ((List Int)×Unit)):=(qiO n).step rec s
def qfh(n:Nat)(x:((List Int)×(Int×Unit))):(Option ((List Int)×Unit)):=(qff n).M x
def qkA(n:Nat)(x:((List Stay)×(Int×(Int×Unit)))):(Option ((List Int)×(Int×Unit))):=(qnn n).M x
theorem qn5(n:Nat)(x):qeL n x=(cond (iLe x.2.1 x.1) (some ((iLe x.1 x.2.2.1),())) (some (false,()))):=by kernel_rfl
theorem qnv(n:Nat)(x):qix n x=(cond (iLe x.2.1 x.1.1) (cond (iLe x.1.1 x.1.2) (some ((iLe x.1.2 x.2.2.1),())) (some (false,()))) (some (false,()))):=by kernel_rfl
theorem qkB(n:Nat)(x):qfW n x=(cond (iGe x.1 x.2.1) (some ((iLe x.1 x.2.2.1),())) (some (false,()))):=by kernel_rfl
theorem qkC(n:Nat)(x):qfX n x=(cond (iGe x.1.1 x.2.1) (cond (iLe x.1.1 x.1.2) (some ((iLe x.1.2 x.2.2.1),())) (some (false,()))) (some (false,()))):=by kernel_rfl
theorem qg6(n:Nat)(rec)(s):qek n rec s=(cond (iLt s.2.2.2.1 s.2.1) (Option.bind (qH (iSh .i64 (IntKind.wrap .u64 s.2.2.2.1))) fun _=>(rec (s.1,(s.2.1,((iW (iAdd s.2.2.1 (bits .and .i64 (iShr s.1 (IntKind.wrap .u64 s.2.2.2.1)) (1:Int)))),((iW (iAdd s.2.2.2.1 (1:Int))),())))))) (some (s.2.2.1,()))):=by kernel_rfl
theorem qll(n:Nat)(x):qcN n x=(Option.bind (qn n (qek n) (x.1,(x.2.1,((0:Int),((0:Int),()))))) fun y=>(some y)):=by kernel_rfl
theorem qjx(n:Nat)(x):qdz n x=(some ((iNe x.1 x.1),())):=by kernel_rfl
theorem qn6(n:Nat)(x):qi8 n x=(Option.bind (qdz n (x.1,())) fun y=>(cond y.1 (Option.bind (qdz n x.2) fun y1=>(cond (!y1.1) (some (true,())) (some ((iLt x.1 x.2.1),())))) (some ((iLt x.1 x.2.1),())))):=by kernel_rfl
theorem qmw(n:Nat)(x):qfK n x=(Option.bind (qdz n (x.1,())) fun y=>(Option.bind (qdz n x.2) fun y1=>(cond y.1 (cond y1.1 (some ((0:Int),())) (some ((Int.negSucc (0:Nat)),()))) (cond y1.1 (some ((1:Int),())) (cond (iLt x.1 x.2.1) (some ((Int.negSucc (0:Nat)),())) (cond (iGt x.1 x.2.1) (some ((1:Int),())) (some ((0:Int),())))))))):=by kernel_rfl
theorem qgL(n:Nat)(rec)(s):qd4 n rec s=(cond (iLt s.2.2.2.2.1 s.2.2.2.1) (Option.bind (lat s.2.2.1 s.2.2.2.2.1) fun y=>(cond (iGe s.2.2.2.2.1 (((List.length s.2.1):Nat):Int)) (some (Sum.inr ((1:Int),()))) (Option.bind (lat s.2.1 s.2.2.2.2.1) fun y1=>(Option.bind (qfK n (y,(y1,()))) fun y2=>(cond (iNe y2.1 (0:Int)) (some (Sum.inr y2)) (rec (s.1,(s.2.1,(s.2.2.1,(s.2.2.2.1,((iW (iAdd s.2.2.2.2.1 (1:Int))),()))))))))))) (some (Sum.inl (s.1,(s.2.1,()))))):=by kernel_rfl
theorem qkL(n:Nat)(x):qgm n x=(Option.bind (qn n (qd4 n) (x.1,(x.2.1,(x.1,((((List.length x.1):Nat):Int),((0:Int),())))))) fun y=>(Sum.elim (fun a=>(cond (iLt (((List.length a.1):Nat):Int) (((List.length a.2.1):Nat):Int)) (some ((Int.negSucc (0:Nat)),())) (some ((0:Int),())))) (fun b=>(some b)) y)):=by kernel_rfl
theorem qhp(n:Nat)(rec)(s):qeC n rec s=(cond (iLt s.2.2.2.1 s.2.2.1) (Option.bind (lat s.2.1 s.2.2.2.1) fun y=>(Option.bind (qH (iSh .i64 s.2.2.2.1)) fun _=>(cond (iEq (bits .and .i64 (iShr s.1 s.2.2.2.1) (1:Int)) (1:Int)) (Option.bind (qH (Nat.ble (nAdd (List.length s.2.2.2.2.1) (1:Nat)) (17592186044416:Nat))) fun _=>(rec (s.1,(s.2.1,(s.2.2.1,((iW (iAdd s.2.2.2.1 (1:Int))),((List.append s.2.2.2.2.1 (y::[])),()))))))) (rec (s.1,(s.2.1,(s.2.2.1,((iW (iAdd s.2.2.2.1 (1:Int))),s.2.2.2.2)))))))) (some s.2.2.2.2)):=by kernel_rfl
theorem qlP(n:Nat)(x):qfh n x=(Option.bind (qn n (qeC n) (x.2.1,(x.1,((((List.length x.1):Nat):Int),((0:Int),([],())))))) fun y=>(some y)):=by kernel_rfl
def qi9(n:Nat)(x:((Int×(Int×(Int×(List (Int×Int)))))×((Int×(Int×(Int×(List (Int×((Int×Int)×(Int×Int)))))))×(Int×Unit)))):(Option ((Int×Int)×(Int×Unit))):=(qlI n).M x
end
end Go.Proofs.YtbdockhccdkdiaaGreat
