/- printed by gen_eqf.py: models at plain types, and what they are, by computing. -/
import Derived.Test.YtcjgodgpaokbnaaNe
import Derived.Test.YtcjgodgpaokbnaaDq2
import Derived.Test.YtcjgodgpaokbnaaDq0
set_option linter.constructorNameAsVariable false
set_option linter.unusedSimpArgs false
set_option linter.unusedVariables false
set_option linter.unusedSectionVars false
namespace Go.Proofs.Ytcjgodgpaokbnaa
open Go Go.Proofs Go.RowKit
set_option maxRecDepth 100000
noncomputable def qpV(n:Nat)(rec:(((List Msg)×(Int×((List Msg)×Unit)))→(Option ((List Msg)×Unit))))(s:((List Msg)×(Int×((List Msg)×Unit)))):(Option ((List Msg)×Unit)):=qu4 n rec s
noncomputable def qdN(n:Nat)(x:((List Msg)×Unit)):(Option ((List Msg)×Unit)):=qvS n x
theorem qst(n:Nat)(rec)(s):qpV n rec s=(cond (iLt s.2.1 (((List.length s.1):Nat):Int)) (Option.bind (lat s.1 s.2.1) fun y=>(Option.bind (q7 (Nat.ble (nAdd (0:Nat) (List.length y.2.2.2.2)) (5864062014805:Nat))) fun _=>(Option.bind (q7 (Nat.ble (nAdd (List.length s.2.2.1) (1:Nat)) (2513169434916:Nat))) fun _=>(rec (s.1,((iW (iAdd s.2.1 (1:Int))),((List.append s.2.2.1 ((y.1,(y.2.1,(y.2.2.1,(y.2.2.2.1,(List.append [] y.2.2.2.2)))))::[])),()))))))) (some s.2.2)):=by kernel_rfl
theorem qAc(n:Nat)(x):qdN n x=(Option.bind (qh n (qpV n) (x.1,((0:Int),([],())))) fun y=>(some y)):=by kernel_rfl
end Go.Proofs.Ytcjgodgpaokbnaa
