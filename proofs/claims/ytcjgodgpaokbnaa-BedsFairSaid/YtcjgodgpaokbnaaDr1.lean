/- The program's part of how a law's arguments read. -/
import Derived.Test.YtcjgodgpaokbnaaNd
import Derived.Test.YtcjgodgpaokbnaaDnT
import Derived.Test.YtcjgodgpaokbnaaRows
namespace Go.Proofs.Ytcjgodgpaokbnaa
set_option linter.constructorNameAsVariable false
set_option linter.unusedSimpArgs false
set_option linter.unusedVariables false
set_option linter.unusedSectionVars false
open Go Go.Proofs Go.RowKit Go.Shelf
open Go.ChangeShapes Go.WideShapes Go.ChangeAt Go.Deep
theorem ownK : ownKnob Try.prog.godebug = none := by kernel_rfl
theorem qMw : laidOutB Try.prog = true := by kernel_rfl
noncomputable def qC2 (os : Os) : World := World.holding Try.prog os ⟨#[], #[], []⟩
end Go.Proofs.Ytcjgodgpaokbnaa
