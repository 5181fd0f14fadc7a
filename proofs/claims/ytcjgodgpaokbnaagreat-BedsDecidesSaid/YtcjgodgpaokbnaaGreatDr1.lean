/- The program's part of how a law's arguments read. -/
import Derived.Test.YtcjgodgpaokbnaaGreatNd
import Derived.Test.YtcjgodgpaokbnaaGreatDnT
import Derived.Test.YtcjgodgpaokbnaaGreatRows
namespace Go.Proofs.YtcjgodgpaokbnaaGreat
set_option linter.constructorNameAsVariable false
set_option linter.unusedSimpArgs false
set_option linter.unusedVariables false
set_option linter.unusedSectionVars false
open Go Go.Proofs Go.RowKit Go.Shelf
open Go.ChangeShapes Go.WideShapes Go.ChangeAt Go.Deep
theorem ownK : ownKnob Tryz.prog.godebug = none := by kernel_rfl
theorem qKv : laidOutB Tryz.prog = true := by kernel_rfl
noncomputable def qAZ (os : Os) : World := World.holding Tryz.prog os ⟨#[], #[], []⟩
end Go.Proofs.YtcjgodgpaokbnaaGreat
