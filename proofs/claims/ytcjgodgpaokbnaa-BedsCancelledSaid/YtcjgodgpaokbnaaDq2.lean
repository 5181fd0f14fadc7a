/- printed by gen_eqf.py: models at plain types, and what they are, by computing. -/
import Derived.Test.YtcjgodgpaokbnaaNe
import Derived.Test.YtcjgodgpaokbnaaDq1
import Derived.Test.YtcjgodgpaokbnaaDq0
namespace Go.Proofs.Ytcjgodgpaokbnaa
set_option linter.constructorNameAsVariable false
set_option linter.unusedSimpArgs false
set_option linter.unusedVariables false
set_option linter.unusedSectionVars false
open Go Go.Proofs Go.RowKit
set_option maxRecDepth 100000
noncomputable def qej (n : Nat) (x : Unit) : (Option (Bool × Unit)) := qrk n x
noncomputable def qeM (n : Nat) (rec : (((List Msg) × (Int × (Int × (Chn × ((List Msg) × Unit))))) → (Option ((List Msg) × (Int × (Chn × ((List Msg) × Unit))))))) (s : ((List Msg) × (Int × (Int × (Chn × ((List Msg) × Unit)))))) : (Option ((List Msg) × (Int × (Chn × ((List Msg) × Unit))))) := qk6 n rec s
noncomputable def qfB (n : Nat) (x : (Chn × ((List Msg) × (Int × Unit)))) : (Option (Bool × Unit)) := qlT n x
theorem qvm (n : Nat) (x) : qej n x = (Option.bind (qkZ n ()) fun y => (Option.bind (qkz n y) fun y1 => (Option.bind (qlX n y) fun y2 => (cond (iEq y1.2.1 (0 : Int)) (cond (iEq y2.2.1 (0 : Int)) (Option.bind (qei n (y1.1, (((5 : Int) :: ((9 : Int) :: [])), ()))) fun y3 => (cond y3.1 (Option.bind (qei n (y2.1, (((3 : Int) :: ((8 : Int) :: [])), ()))) fun y4 => (some y4)) (some (false, ())))) (some (false, ()))) (some (false, ())))))) := by kernel_rfl
theorem qi3 (n : Nat) (rec) (s) : qeM n rec s = (cond (iLt s.2.2.1 (((List.length s.1) : Nat) : Int)) (Option.bind (lat s.1 s.2.2.1) fun y => (cond (iNe y.2.1 s.2.1) (Option.bind (lat s.1 s.2.2.1) fun y1 => (Option.bind (qeo (Nat.ble (nAdd (List.length s.2.2.2.2.1) (1 : Nat)) 1000000)) fun _ => (rec (s.1, (s.2.1, ((iW (iAdd s.2.2.1 (1 : Int))), (s.2.2.2.1, ((List.append s.2.2.2.2.1 (y1 :: [])), ())))))))) (rec (s.1, (s.2.1, ((iW (iAdd s.2.2.1 (1 : Int))), s.2.2.2)))))) (some (s.1, (s.2.1, s.2.2.2)))) := by kernel_rfl
theorem qqB (n : Nat) (x) : qfB n x = (Option.bind (qmQ n (x.1, (x.2.1, ()))) fun y => (cond (!y.1) (Option.bind (qej n ()) fun y1 => (some y1)) (cond (iGt (((List.length x.2.1) : Nat) : Int) (8 : Int)) (Option.bind (qej n ()) fun y1 => (some y1)) (cond (iLt x.2.2.1 (0 : Int)) (Option.bind (qej n ()) fun y1 => (some y1)) (cond (iGt x.2.2.1 (99 : Int)) (Option.bind (qej n ()) fun y1 => (some y1)) (Option.bind (qg n (qeM n) (x.2.1, (x.2.2.1, ((0 : Int), (x.1, ([], ())))))) fun y1 => (Option.bind (qkY n (y1.1, ((y1.2.1 :: []), ()))) fun y2 => (Option.bind (qkz n (y1.2.2.1, y2)) fun y3 => (Option.bind (qkz n y1.2.2) fun y4 => (Option.bind (qlX n (y1.2.2.1, y2)) fun y5 => (Option.bind (qlX n y1.2.2) fun y6 => (cond (iEq y3.2.1 (0 : Int)) (cond (iEq y4.2.1 (0 : Int)) (cond (iEq y5.2.1 (0 : Int)) (cond (iEq y6.2.1 (0 : Int)) (Option.bind (qei n (y3.1, (y4.1, ()))) fun y7 => (cond y7.1 (Option.bind (qei n (y5.1, (y6.1, ()))) fun y8 => (cond y8.1 (Option.bind (qhs n (y3.1, (y1.2.1, ()))) fun y9 => (cond (!y9.1) (Option.bind (qhs n (y5.1, (y1.2.1, ()))) fun y10 => (cond (!y10.1) (Option.bind (qej n ()) fun y11 => (some y11)) (some (false, ())))) (some (false, ())))) (some (false, ())))) (some (false, ())))) (some (false, ()))) (some (false, ()))) (some (false, ()))) (some (false, ())))))))))))))) := by kernel_rfl
end Go.Proofs.Ytcjgodgpaokbnaa
