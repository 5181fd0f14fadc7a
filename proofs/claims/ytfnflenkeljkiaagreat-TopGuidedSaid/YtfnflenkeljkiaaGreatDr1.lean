/- The program's part of how a law's arguments read. -/
import Derived.Test.YtfnflenkeljkiaaGreatNd
import Derived.Test.YtfnflenkeljkiaaGreatNf
import Derived.Test.YtfnflenkeljkiaaGreatRows
set_option linter.constructorNameAsVariable false
set_option linter.unusedSimpArgs false
set_option linter.unusedVariables false
set_option linter.unusedSectionVars false
namespace Go.Proofs.YtfnflenkeljkiaaGreat
open Go Go.Proofs Go.RowKit Go.Shelf
open Go.ChangeShapes Go.WideShapes Go.ChangeAt Go.Deep
theorem ownK:ownKnob Tryz.prog.godebug=none:=by kernel_rfl
theorem qzu:laidOutB Tryz.prog=true:=by kernel_rfl
noncomputable def qqf(os:Os):World:=World.holding Tryz.prog os ⟨#[],#[],[]⟩
theorem gl0{w:World}:Gl w:=fun p hp=>by cases hp
end Go.Proofs.YtfnflenkeljkiaaGreat
