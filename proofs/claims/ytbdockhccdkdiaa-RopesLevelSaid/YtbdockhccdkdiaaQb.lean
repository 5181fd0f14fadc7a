/- Texts DqR, DqV in one. -/
import Derived.Test.YtbdockhccdkdiaaNf
import Derived.Test.YtbdockhccdkdiaaQa
/- printed by gen_eqf.py: models at plain types, and what they are, by computing. -/
set_option linter.constructorNameAsVariable false
set_option linter.unusedSimpArgs false
set_option linter.unusedVariables false
set_option linter.unusedSectionVars false
namespace Go.Proofs.Ytbdockhccdkdiaa
open Go Go.Proofs Go.RowKit
set_option maxRecDepth 100000
noncomputable section
def qdW(n:Nat)(x:(Int×(Int×(Int×Unit)))):(Option (Bool×Unit)):=(qbK n).M x
def qgR(n:Nat)(x:((Int×Int)×(Int×(Int×Unit)))):(Option (Bool×Unit)):=(qgJ n).M x
def qdF(n:Nat)(x:(Int×(Int×(Int×Unit)))):(Option (Bool×Unit)):=(qeG n).M x
def qdG(n:Nat)(x:((Int×Int)×(Int×(Int×Unit)))):(Option (Bool×Unit)):=(qgr n).M x
def qfl(n:Nat)(x:(Int×(Int×Unit))):(Option ((Int×Int)×Unit)):=(qfi n).M x
def qet(n:Nat)(x:Unit):(Option ((Int×(Int×(Int×((List Stay)×((List Int)×((Int×(Int×(Int×(List (Int×Int)))))×(List (Int×(Int×(Int×(List (Int×((Int×Int)×(Int×Int))))))))))))))×((List Stay)×Unit))):=(qf6 n).M x
def qd5(n:Nat)(x:((List Int)×((List Int)×Unit))):(Option (Bool×Unit)):=(qfX n).M x
def qdH(n:Nat)(rec:((Int×(Int×(Int×(Int×Unit))))→(Option (Int×Unit))))(s:(Int×(Int×(Int×(Int×Unit))))):(Option (Int×Unit)):=(qgL n).step rec s
def qN(n:Nat)(x:(Int×(Int×Unit))):(Option (Int×Unit)):=(qg0 n).M x
def qbe(n:Nat)(x:(Stay×(Stay×(Int×(Int×(Int×(Int×Unit))))))):(Option (Bool×Unit)):=(qf7 n).M x
def qcP(n:Nat)(rec:(((List Stay)×(Int×Unit))→(Option (((List Stay)×Unit)⊕(Bool×Unit)))))(s:((List Stay)×(Int×Unit))):(Option (((List Stay)×Unit)⊕(Bool×Unit))):=(qfD n).step rec s
def qf1(n:Nat)(x:((List Stay)×Unit)):(Option (Bool×Unit)):=(qfY n).M x
def qcQ(n:Nat)(x:((List Stay)×(Int×(Bool×Unit)))):(Option (Int×Unit)):=(qfo n).M x
def qgS(n:Nat)(rec:(((List Stay)×(Int×(Int×((List Stay)×(Int×(Int×((List Stay)×(Int×(Int×(Stay×Unit))))))))))→(Option (((List Stay)×(Int×(Int×((List Stay)×(Int×(Int×Unit))))))⊕(Bool×Unit)))))(s:((List Stay)×(Int×(Int×((List Stay)×(Int×(Int×((List Stay)×(Int×(Int×(Stay×Unit))))))))))):(Option (((List Stay)×(Int×(Int×((List Stay)×(Int×(Int×Unit))))))⊕(Bool×Unit))):=(qjp n).step rec s
def qgT(n:Nat)(rec:(((List Stay)×(Int×(Int×((List Stay)×(Int×(Int×Unit))))))→(Option (Unit⊕(Bool×Unit)))))(s:((List Stay)×(Int×(Int×((List Stay)×(Int×(Int×Unit))))))):(Option (Unit⊕(Bool×Unit))):=(qjq n).step rec s
def qgd(n:Nat)(x:((List Stay)×(Int×(Int×Unit)))):(Option (Bool×Unit)):=(qhN n).M x
def qfp(n:Nat)(x:(Int×Unit)):(Option (Bool×Unit)):=(qiT n).M x
def qeB(n:Nat)(x:(Int×(Int×Unit))):(Option (Int×Unit)):=(qez n).M x
def qdo(n:Nat)(rec:(((List Int)×((List Int)×((List Int)×(Int×(Int×Unit)))))→(Option (((List Int)×((List Int)×Unit))⊕(Int×Unit)))))(s:((List Int)×((List Int)×((List Int)×(Int×(Int×Unit)))))):(Option (((List Int)×((List Int)×Unit))⊕(Int×Unit))):=(qgt n).step rec s
def qe2(n:Nat)(x:((List Int)×((List Int)×Unit))):(Option (Int×Unit)):=(qgM n).M x
def qdS(n:Nat)(rec:((Int×((List Int)×(Int×(Int×((List Int)×Unit)))))→(Option ((List Int)×Unit))))(s:(Int×((List Int)×(Int×(Int×((List Int)×Unit)))))):(Option ((List Int)×Unit)):=(qg2 n).step rec s
def qfK(n:Nat)(x:((List Int)×(Int×Unit))):(Option ((List Int)×Unit)):=(qhE n).M x
def qc2(n:Nat)(rec:((Int×((List Stay)×(Int×(Int×((List Stay)×Unit)))))→(Option ((List Stay)×Unit))))(s:(Int×((List Stay)×(Int×(Int×((List Stay)×Unit)))))):(Option ((List Stay)×Unit)):=(qf0 n).step rec s
def qeu(n:Nat)(x:((List Stay)×(Int×Unit))):(Option ((List Stay)×Unit)):=(qf8 n).M x
def qgx(n:Nat)(x:(Stay×(Int×Unit))):(Option (Bool×(Int×Unit))):=(qcI n).M x
def qbP(n:Nat)(x:(Stay×(Int×Unit))):(Option (Bool×(Int×Unit))):=(qbO n).M x
def qr(n:Nat)(rec:(((List Stay)×(Int×(Int×(Int×Unit))))→(Option ((Int×Unit)⊕(Int×(Int×Unit))))))(s:((List Stay)×(Int×(Int×(Int×Unit))))):(Option ((Int×Unit)⊕(Int×(Int×Unit)))):=(qbb n).step rec s
def qbf(n:Nat)(x:((List Stay)×(Int×Unit))):(Option (Int×(Int×Unit))):=(qbd n).M x
def qY(n:Nat)(x:((List Stay)×(Int×Unit))):(Option (Bool×(Int×Unit))):=(qX n).M x
def qda(n:Nat)(x:((List Stay)×(Int×Unit))):(Option (Bool×(Int×Unit))):=(qc9 n).M x
def qdv(n:Nat)(x:((List Stay)×(Bool×Unit))):(Option (Int×Unit)):=(qfE n).M x
def qgU(n:Nat)(rec:(((List Stay)×(Int×(Int×Unit)))→(Option (Int×Unit))))(s:((List Stay)×(Int×(Int×Unit)))):(Option (Int×Unit)):=(qjs n).step rec s
def qge(n:Nat)(x:((List Stay)×(Int×Unit))):(Option (Int×(Int×Unit))):=(qkm n).M x
def qeh(n:Nat)(x:(Int×((List Stay)×(Int×(Int×Unit))))):(Option (Bool×((List Stay)×(Int×(Int×Unit))))):=(qiU n).M x
def qp(n:Nat)(rec:((Int×(Int×(Int×((List Stay)×(Int×(Int×((List Int)×Unit)))))))→(Option (Int×((List Stay)×(Int×(Int×((List Int)×Unit))))))))(s:(Int×(Int×(Int×((List Stay)×(Int×(Int×((List Int)×Unit)))))))):(Option (Int×((List Stay)×(Int×(Int×((List Int)×Unit)))))):=(qex n).step rec s
def qb6(n:Nat)(rec:(((List Int)×((List Int)×(Bool×(Int×(Int×((List Stay)×(Int×(Int×Unit))))))))→(Option ((List Int)×(Bool×((List Stay)×(Int×(Int×Unit))))))))(s:((List Int)×((List Int)×(Bool×(Int×(Int×((List Stay)×(Int×(Int×Unit))))))))):(Option ((List Int)×(Bool×((List Stay)×(Int×(Int×Unit)))))):=(qey n).step rec s
def qch(n:Nat)(x:(Int×((List Stay)×(Int×(Int×Unit))))):(Option ((List Int)×(Bool×((List Stay)×(Int×(Int×Unit)))))):=(qeI n).M x
def qc3(n:Nat)(x:((List Stay)×(Int×(Int×Unit)))):(Option ((List Int)×(Int×Unit))):=(qin n).M x
theorem qlz(n:Nat)(x):qdW n x=(cond (iLe x.2.1 x.1) (some ((iLe x.1 x.2.2.1),())) (some (false,()))):=by kernel_rfl
theorem qkZ(n:Nat)(x):qgR n x=(cond (iLe x.2.1 x.1.1) (cond (iLe x.1.1 x.1.2) (some ((iLe x.1.2 x.2.2.1),())) (some (false,()))) (some (false,()))):=by kernel_rfl
theorem qis(n:Nat)(x):qdF n x=(cond (iGe x.1 x.2.1) (some ((iLe x.1 x.2.2.1),())) (some (false,()))):=by kernel_rfl
theorem qit(n:Nat)(x):qdG n x=(cond (iGe x.1.1 x.2.1) (cond (iLe x.1.1 x.1.2) (some ((iLe x.1.2 x.2.2.1),())) (some (false,()))) (some (false,()))):=by kernel_rfl
theorem qfL(n:Nat)(rec)(s):qdH n rec s=(cond (iLt s.2.2.2.1 s.2.1) (Option.bind (qL (iSh .i64 (IntKind.wrap .u64 s.2.2.2.1))) fun _=>(rec (s.1,(s.2.1,((iW (iAdd s.2.2.1 (bits .and .i64 (iShr s.1 (IntKind.wrap .u64 s.2.2.2.1)) (1:Int)))),((iW (iAdd s.2.2.2.1 (1:Int))),())))))) (some (s.2.2.1,()))):=by kernel_rfl
theorem qi6(n:Nat)(x):qN n x=(Option.bind (qm n (qdH n) (x.1,(x.2.1,((0:Int),((0:Int),()))))) fun y=>(some y)):=by kernel_rfl
theorem qh4(n:Nat)(x):qbe n x=(some ((iGt (iW (iMul (iW (iMul (iMax (iW (iSub x.2.2.1 x.2.2.2.1)) (iW (iSub x.2.2.2.1 x.2.2.1))) x.2.2.2.2.2.1)) (1000:Int))) (iW (iMul x.2.2.2.2.1 (iW (iSub x.2.1.1 x.1.1))))),())):=by kernel_rfl
theorem qeM(n:Nat)(rec)(s):qcP n rec s=(cond (iLt s.2.1 (((List.length s.1):Nat):Int)) (Option.bind (lat s.1 s.2.1) fun y=>(Option.bind (qdF n (y.1,((0:Int),((100000:Int),())))) fun y1=>(cond (!y1.1) (some (Sum.inr (false,()))) (cond (iGt s.2.1 (0:Int)) (Option.bind (lat s.1 s.2.1) fun y2=>(Option.bind (lat s.1 (iW (iSub s.2.1 (1:Int)))) fun y3=>(cond (iLe y2.1 y3.1) (some (Sum.inr (false,()))) (Option.bind (lat s.1 s.2.1) fun y4=>(Option.bind (qdG n (y4.2,((0:Int),((100:Int),())))) fun y5=>(cond (!y5.1) (some (Sum.inr (false,()))) (rec (s.1,((iW (iAdd s.2.1 (1:Int))),()))))))))) (Option.bind (lat s.1 s.2.1) fun y2=>(Option.bind (qdG n (y2.2,((0:Int),((100:Int),())))) fun y3=>(cond (!y3.1) (some (Sum.inr (false,()))) (rec (s.1,((iW (iAdd s.2.1 (1:Int))),())))))))))) (some (Sum.inl (s.1,())))):=by kernel_rfl
theorem qhO(n:Nat)(x):qf1 n x=(Option.bind (qm n (qcP n) (x.1,((0:Int),()))) fun y=>(Sum.elim (fun a=>(some ((iLe (((List.length a.1):Nat):Int) (8:Int)),()))) (fun b=>(some b)) y)):=by kernel_rfl
theorem qhj(n:Nat)(x):qcQ n x=(Option.bind (qf1 n (x.1,())) fun y=>(cond (!y.1) (some ((94:Int),())) (Option.bind (qdF n (x.2.1,((0:Int),((1000:Int),())))) fun y1=>(cond (!y1.1) (some ((1:Int),())) (cond (!x.2.2.1) (some ((1:Int),())) (some ((0:Int),()))))))):=by kernel_rfl
theorem qhF(n:Nat)(rec)(s):qgS n rec s=(cond (iLt s.2.2.2.2.2.2.2.2.1 s.2.2.2.2.2.2.2.1) (Option.bind (lat s.2.2.2.2.2.2.1 s.2.2.2.2.2.2.2.2.1) fun y=>(cond (iGt (iW (iMul (iW (iMul (iMax (iW (iSub s.2.2.2.2.2.2.2.2.2.1.2.2 y.2.1)) (iW (iSub y.2.2 s.2.2.2.2.2.2.2.2.2.1.2.1))) s.2.2.1)) (1000:Int))) (iW (iMul s.2.1 (iW (iSub s.2.2.2.2.2.2.2.2.2.1.1 y.1))))) (some (Sum.inr (false,()))) (rec (s.1,(s.2.1,(s.2.2.1,(s.2.2.2.1,(s.2.2.2.2.1,(s.2.2.2.2.2.1,(s.2.2.2.2.2.2.1,(s.2.2.2.2.2.2.2.1,((iW (iAdd s.2.2.2.2.2.2.2.2.1 (1:Int))),s.2.2.2.2.2.2.2.2.2)))))))))))) (some (Sum.inl (s.1,(s.2.1,(s.2.2.1,(s.2.2.2.1,(s.2.2.2.2.1,(s.2.2.2.2.2.1,()))))))))):=by kernel_rfl
theorem qhG(n:Nat)(rec)(s):qgT n rec s=(cond (iLt s.2.2.2.2.2.1 s.2.2.2.2.1) (Option.bind (lat s.2.2.2.1 s.2.2.2.2.2.1) fun y=>(Option.bind (cutO (List.length s.1) s.2.2.2.2.2.1) fun y1=>(Option.bind (qm n (qgS n) (s.1,(s.2.1,(s.2.2.1,(s.2.2.2.1,(s.2.2.2.2.1,(s.2.2.2.2.2.1,((List.take y1 s.1),((((List.length (List.take y1 s.1)):Nat):Int),((0:Int),(y,()))))))))))) fun y2=>(Sum.elim (fun a=>(rec (a.1,(a.2.1,(a.2.2.1,(a.2.2.2.1,(a.2.2.2.2.1,((iW (iAdd a.2.2.2.2.2.1 (1:Int))),())))))))) (fun b=>(some (Sum.inr b))) y2)))) (some (Sum.inl ()))):=by kernel_rfl
theorem qmb(n:Nat)(x):qgd n x=(Option.bind (qm n (qgT n) (x.1,(x.2.1,(x.2.2.1,(x.1,((((List.length x.1):Nat):Int),((0:Int),()))))))) fun y=>(Sum.elim (fun _=>(some (true,()))) (fun b=>(some b)) y)):=by kernel_rfl
theorem qk0(n:Nat)(x):qfp n x=(some ((iNe x.1 x.1),())):=by kernel_rfl
theorem qkc(n:Nat)(x):qeB n x=(Option.bind (qfp n (x.1,())) fun y=>(Option.bind (qfp n x.2) fun y1=>(cond y.1 (cond y1.1 (some ((0:Int),())) (some ((Int.negSucc (0:Nat)),()))) (cond y1.1 (some ((1:Int),())) (cond (iLt x.1 x.2.1) (some ((Int.negSucc (0:Nat)),())) (cond (iGt x.1 x.2.1) (some ((1:Int),())) (some ((0:Int),())))))))):=by kernel_rfl
theorem qfq(n:Nat)(rec)(s):qdo n rec s=(cond (iLt s.2.2.2.2.1 s.2.2.2.1) (Option.bind (lat s.2.2.1 s.2.2.2.2.1) fun y=>(cond (iGe s.2.2.2.2.1 (((List.length s.2.1):Nat):Int)) (some (Sum.inr ((1:Int),()))) (Option.bind (lat s.2.1 s.2.2.2.2.1) fun y1=>(Option.bind (qeB n (y,(y1,()))) fun y2=>(cond (iNe y2.1 (0:Int)) (some (Sum.inr y2)) (rec (s.1,(s.2.1,(s.2.2.1,(s.2.2.2.1,((iW (iAdd s.2.2.2.2.1 (1:Int))),()))))))))))) (some (Sum.inl (s.1,(s.2.1,()))))):=by kernel_rfl
theorem qiA(n:Nat)(x):qe2 n x=(Option.bind (qm n (qdo n) (x.1,(x.2.1,(x.1,((((List.length x.1):Nat):Int),((0:Int),())))))) fun y=>(Sum.elim (fun a=>(cond (iLt (((List.length a.1):Nat):Int) (((List.length a.2.1):Nat):Int)) (some ((Int.negSucc (0:Nat)),())) (some ((0:Int),())))) (fun b=>(some b)) y)):=by kernel_rfl
theorem qf2(n:Nat)(rec)(s):qdS n rec s=(cond (iLt s.2.2.2.1 s.2.2.1) (Option.bind (lat s.2.1 s.2.2.2.1) fun y=>(Option.bind (qL (iSh .i64 s.2.2.2.1)) fun _=>(cond (iEq (bits .and .i64 (iShr s.1 s.2.2.2.1) (1:Int)) (1:Int)) (Option.bind (qL (Nat.ble (nAdd (List.length s.2.2.2.2.1) (1:Nat)) (17592186044416:Nat))) fun _=>(rec (s.1,(s.2.1,(s.2.2.1,((iW (iAdd s.2.2.2.1 (1:Int))),((List.append s.2.2.2.2.1 (y::[])),()))))))) (rec (s.1,(s.2.1,(s.2.2.1,((iW (iAdd s.2.2.2.1 (1:Int))),s.2.2.2.2)))))))) (some s.2.2.2.2)):=by kernel_rfl
theorem qjB(n:Nat)(x):qfK n x=(Option.bind (qm n (qdS n) (x.2.1,(x.1,((((List.length x.1):Nat):Int),((0:Int),([],())))))) fun y=>(some y)):=by kernel_rfl
theorem qeU(n:Nat)(rec)(s):qc2 n rec s=(cond (iLt s.2.2.2.1 s.2.2.1) (Option.bind (lat s.2.1 s.2.2.2.1) fun y=>(Option.bind (qL (iSh .i64 s.2.2.2.1)) fun _=>(cond (iEq (bits .and .i64 (iShr s.1 s.2.2.2.1) (1:Int)) (1:Int)) (Option.bind (qL (Nat.ble (nAdd (List.length s.2.2.2.2.1) (1:Nat)) (5864062014805:Nat))) fun _=>(rec (s.1,(s.2.1,(s.2.2.1,((iW (iAdd s.2.2.2.1 (1:Int))),((List.append s.2.2.2.2.1 (y::[])),()))))))) (rec (s.1,(s.2.1,(s.2.2.1,((iW (iAdd s.2.2.2.1 (1:Int))),s.2.2.2.2)))))))) (some s.2.2.2.2)):=by kernel_rfl
theorem qh5(n:Nat)(x):qeu n x=(Option.bind (qm n (qc2 n) (x.2.1,(x.1,((((List.length x.1):Nat):Int),((0:Int),([],())))))) fun y=>(some y)):=by kernel_rfl
theorem qiu(n:Nat)(x):qgx n x=(Option.bind (qdW n (x.1.1,((iW (iAdd x.2.1 (1:Int))),((100000:Int),())))) fun y=>(cond y.1 (Option.bind (qgR n (x.1.2,((0:Int),((100:Int),())))) fun y1=>(some (y1.1,(x.1.1,())))) (some (false,(x.1.1,()))))):=by kernel_rfl
theorem qev(n:Nat)(x):qbP n x=(Option.bind (qgx n x) fun y=>(some ((!y.1),y.2))):=by kernel_rfl
theorem qS(n:Nat)(rec)(s):qr n rec s=(cond (iLt s.2.2.1 s.2.1) (Option.bind (lat s.1 s.2.2.1) fun y=>(Option.bind (qbP n (y,s.2.2.2)) fun y1=>(cond y1.1 (some (Sum.inr (s.2.2.1,y1.2))) (rec (s.1,(s.2.1,((iW (iAdd s.2.2.1 (1:Int))),y1.2))))))) (some (Sum.inl s.2.2.2))):=by kernel_rfl
theorem qcj(n:Nat)(x):qbf n x=(Option.bind (qm n (qr n) (x.1,((((List.length x.1):Nat):Int),((0:Int),x.2)))) fun y=>(Sum.elim (fun a=>(some ((Int.negSucc (0:Nat)),a))) (fun b=>(some b)) y)):=by kernel_rfl
theorem qcd(n:Nat)(x):qY n x=(Option.bind (qbf n x) fun y=>(some ((iGe y.1 (0:Int)),y.2))):=by kernel_rfl
theorem qeN(n:Nat)(x):qda n x=(Option.bind (qY n x) fun y=>(some ((!y.1),y.2))):=by kernel_rfl
theorem qjC(n:Nat)(x):qdv n x=(cond (iGt (((List.length x.1):Nat):Int) (8:Int)) (some ((94:Int),())) (Option.bind (qda n (x.1,((Int.negSucc (0:Nat)),()))) fun y=>(cond (!y.1) (some ((94:Int),())) (cond (!x.2.1) (some ((1:Int),())) (some ((0:Int),())))))):=by kernel_rfl
theorem qhH(n:Nat)(rec)(s):qgU n rec s=(cond (iLt s.2.2.1 (100:Int)) (Option.bind (qgd n (s.1,(s.2.1,((iW (iAdd s.2.2.1 (1:Int))),())))) fun y=>(cond y.1 (rec (s.1,(s.2.1,((iW (iAdd s.2.2.1 (1:Int))),())))) (some s.2.2))) (some s.2.2)):=by kernel_rfl
theorem qmc(n:Nat)(x):qge n x=(Option.bind (qdW n (x.2.1,((0:Int),((1000:Int),())))) fun y=>(Option.bind (qdv n (x.1,y)) fun y1=>(cond (iNe y1.1 (0:Int)) (some ((0:Int),y1)) (Option.bind (qm n (qgU n) (x.1,(x.2.1,((0:Int),())))) fun y2=>(some (y2.1,((0:Int),()))))))):=by kernel_rfl
theorem qk1(n:Nat)(x):qeh n x=(Option.bind (qeu n (x.2.1,((bits .xor .i64 (Int.negSucc (0:Nat)) x.1),()))) fun y=>(Option.bind (qgd n (y.1,x.2.2)) fun y1=>(some (y1.1,x.2)))):=by kernel_rfl
theorem qdT(n:Nat)(rec)(s):qb6 n rec s=(cond (iLt s.2.2.2.2.1 s.2.2.2.1) (Option.bind (qfK n (s.1,(s.2.2.2.2.1,()))) fun y=>(cond s.2.2.1 (cond (iGt (((List.length y.1):Nat):Int) (((List.length s.2.1):Nat):Int)) (rec (s.1,(s.2.1,(s.2.2.1,(s.2.2.2.1,((iW (iAdd s.2.2.2.2.1 (1:Int))),s.2.2.2.2.2)))))) (cond (iEq (((List.length y.1):Nat):Int) (((List.length s.2.1):Nat):Int)) (Option.bind (qe2 n (y.1,(s.2.1,()))) fun y1=>(cond (iGe y1.1 (0:Int)) (rec (s.1,(s.2.1,(s.2.2.1,(s.2.2.2.1,((iW (iAdd s.2.2.2.2.1 (1:Int))),s.2.2.2.2.2)))))) (Option.bind (qeh n s.2.2.2.2) fun y2=>(cond y2.1 (rec (s.1,(y.1,(true,(s.2.2.2.1,((iW (iAdd s.2.2.2.2.1 (1:Int))),y2.2)))))) (rec (s.1,(s.2.1,(s.2.2.1,(s.2.2.2.1,((iW (iAdd s.2.2.2.2.1 (1:Int))),y2.2)))))))))) (Option.bind (qeh n s.2.2.2.2) fun y1=>(cond y1.1 (rec (s.1,(y.1,(true,(s.2.2.2.1,((iW (iAdd s.2.2.2.2.1 (1:Int))),y1.2)))))) (rec (s.1,(s.2.1,(s.2.2.1,(s.2.2.2.1,((iW (iAdd s.2.2.2.2.1 (1:Int))),y1.2)))))))))) (Option.bind (qeh n s.2.2.2.2) fun y1=>(cond y1.1 (rec (s.1,(y.1,(true,(s.2.2.2.1,((iW (iAdd s.2.2.2.2.1 (1:Int))),y1.2)))))) (rec (s.1,(s.2.1,(s.2.2.1,(s.2.2.2.1,((iW (iAdd s.2.2.2.2.1 (1:Int))),y1.2)))))))))) (some (s.2.1,(s.2.2.1,s.2.2.2.2.2)))):=by kernel_rfl
theorem qgA(n:Nat)(x):qch n x=(Option.bind (qL (iMk x.1)) fun _=>(Option.bind (qL (iEq x.1 x.1)) fun _=>(Option.bind (qm n (qp n) (x.1,((((List.length (List.replicate (x.1).toNat (0:Int))):Nat):Int),((0:Int),(x.2.1,(x.2.2.1,(x.2.2.2.1,((List.replicate (x.1).toNat (0:Int)),())))))))) fun y2=>(Option.bind (qL (iSh .i64 y2.1)) fun _=>(Option.bind (qm n (qb6 n) (y2.2.2.2.2.1,([],(false,((iW (iShl (1:Int) y2.1)),((0:Int),(y2.2.1,(y2.2.2.1,(y2.2.2.2.1,()))))))))) fun y4=>(some y4)))))):=by kernel_rfl
theorem qmP(n:Nat)(x):qc3 n x=(Option.bind (qdW n (x.2.1,((0:Int),((1000:Int),())))) fun y=>(cond y.1 (Option.bind (qdW n (x.2.2.1,((0:Int),((100:Int),())))) fun y1=>(Option.bind (qdv n (x.1,y1)) fun y2=>(cond (iNe y2.1 (0:Int)) (some ([],y2)) (Option.bind (qch n ((((List.length x.1):Nat):Int),x)) fun y3=>(some (y3.1,((0:Int),()))))))) (Option.bind (qdv n (x.1,(false,()))) fun y1=>(cond (iNe y1.1 (0:Int)) (some ([],y1)) (Option.bind (qch n ((((List.length x.1):Nat):Int),x)) fun y2=>(some (y2.1,((0:Int),())))))))):=by kernel_rfl
def qhk(n:Nat)(x:((Int×(Int×(Int×(List (Int×Int)))))×((Int×(Int×(Int×(List (Int×((Int×Int)×(Int×Int)))))))×(Int×Unit)))):(Option ((Int×Int)×(Int×Unit))):=(qju n).M x
end
end Go.Proofs.Ytbdockhccdkdiaa
