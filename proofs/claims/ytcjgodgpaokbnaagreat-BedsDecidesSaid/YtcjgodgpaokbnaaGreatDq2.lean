/- printed by gen_eqf.py: models at plain types, and what they are, by computing. -/
import Derived.Test.YtcjgodgpaokbnaaGreatNe
import Derived.Test.YtcjgodgpaokbnaaGreatDq1
import Derived.Test.YtcjgodgpaokbnaaGreatDq0
namespace Go.Proofs.YtcjgodgpaokbnaaGreat
set_option linter.constructorNameAsVariable false
set_option linter.unusedSimpArgs false
set_option linter.unusedVariables false
set_option linter.unusedSectionVars false
open Go Go.Proofs Go.RowKit
set_option maxRecDepth 100000
noncomputable def qiD (n : Nat) (x : Unit) : (Option (Bool × Unit)) := qrq n x
theorem qwf (n : Nat) (x) : qiD n x = (Option.bind (qkO n ()) fun y => (Option.bind (qhQ n y) fun y1 => (Option.bind (qiN n y) fun y2 => (cond (iEq y1.2.1 (0 : Int)) (cond (iEq y2.2.1 (0 : Int)) (Option.bind (qdS n (y1.1, (((5 : Int) :: ((9 : Int) :: [])), ()))) fun y3 => (cond y3.1 (Option.bind (qdS n (y2.1, (((3 : Int) :: ((8 : Int) :: [])), ()))) fun y4 => (some y4)) (some (false, ())))) (some (false, ()))) (some (false, ())))))) := by kernel_rfl
end Go.Proofs.YtcjgodgpaokbnaaGreat
