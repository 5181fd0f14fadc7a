/- printed by gen_eqf.py: models at plain types, and what they are, by computing. -/
import Derived.Test.YtcjgodgpaokbnaaGreatNe
import Derived.Test.YtcjgodgpaokbnaaGreatDq2
import Derived.Test.YtcjgodgpaokbnaaGreatDq0
namespace Go.Proofs.YtcjgodgpaokbnaaGreat
set_option linter.constructorNameAsVariable false
set_option linter.unusedSimpArgs false
set_option linter.unusedVariables false
set_option linter.unusedSectionVars false
open Go Go.Proofs Go.RowKit
set_option maxRecDepth 100000
noncomputable def qkQ (n : Nat) (rec : (((List Msg) × (Int × ((List Msg) × Unit))) → (Option ((List Msg) × Unit)))) (s : ((List Msg) × (Int × ((List Msg) × Unit)))) : (Option ((List Msg) × Unit)) := qqE n rec s
noncomputable def qmL (n : Nat) (x : ((List Msg) × Unit)) : (Option ((List Msg) × Unit)) := qrr n x
theorem qnQ (n : Nat) (rec) (s) : qkQ n rec s = (cond (iLt s.2.1 (((List.length s.1) : Nat) : Int)) (Option.bind (lat s.1 s.2.1) fun y => (Option.bind (qS (Nat.ble (nAdd (0 : Nat) (List.length y.2.2.2.2)) 1000000)) fun _ => (Option.bind (qS (Nat.ble (nAdd (List.length s.2.2.1) (1 : Nat)) 1000000)) fun _ => (rec (s.1, ((iW (iAdd s.2.1 (1 : Int))), ((List.append s.2.2.1 ((y.1, (y.2.1, (y.2.2.1, (y.2.2.2.1, (List.append [] y.2.2.2.2))))) :: [])), ()))))))) (some s.2.2)) := by kernel_rfl
theorem qwg (n : Nat) (x) : qmL n x = (Option.bind (qf n (qkQ n) (x.1, ((0 : Int), ([], ())))) fun y => (some y)) := by kernel_rfl
end Go.Proofs.YtcjgodgpaokbnaaGreat
