/- printed by gen_eqf.py: models at plain types, and what they are, by computing. -/
import Derived.Test.YtcjgodgpaokbnaaNe
import Derived.Test.YtcjgodgpaokbnaaDq1
import Derived.Test.YtcjgodgpaokbnaaDq0
namespace Go.Proofs.Ytcjgodgpaokbnaa
set_option linter.constructorNameAsVariable false
set_option linter.unusedSimpArgs false
set_option linter.unusedVariables false
set_option linter.unusedSectionVars false
open Go Go.Proofs Go.RowKit
set_option maxRecDepth 100000
noncomputable def qX (n : Nat) (x : Unit) : (Option (Bool × Unit)) := qtO n x
theorem qyq (n : Nat) (x) : qX n x = (Option.bind (qmj n ()) fun y => (Option.bind (qhT n y) fun y1 => (Option.bind (qqz n y) fun y2 => (cond (iEq y1.2.1 (0 : Int)) (cond (iEq y2.2.1 (0 : Int)) (Option.bind (qid n (y1.1, (((5 : Int) :: ((9 : Int) :: [])), ()))) fun y3 => (cond y3.1 (Option.bind (qid n (y2.1, (((3 : Int) :: ((8 : Int) :: [])), ()))) fun y4 => (some y4)) (some (false, ())))) (some (false, ()))) (some (false, ())))))) := by kernel_rfl
end Go.Proofs.Ytcjgodgpaokbnaa
