/- The program's part of how a law's arguments read. -/
import Derived.Test.YtbdockhccdkdiaaNd
import Derived.Test.YtbdockhccdkdiaaNf
import Derived.Test.YtbdockhccdkdiaaRows
set_option linter.constructorNameAsVariable false
set_option linter.unusedSimpArgs false
set_option linter.unusedVariables false
set_option linter.unusedSectionVars false
namespace Go.Proofs.Ytbdockhccdkdiaa
open Go Go.Proofs Go.RowKit Go.Shelf
open Go.ChangeShapes Go.WideShapes Go.ChangeAt Go.Deep
theorem ownK:ownKnob Try.prog.godebug=none:=by kernel_rfl
theorem qxC:laidOutB Try.prog=true:=by kernel_rfl
noncomputable def qpf(os:Os):World:=World.holding Try.prog os ⟨#[],#[],[]⟩
theorem gl0{w:World}:Gl w:=fun p hp=>by cases hp
end Go.Proofs.Ytbdockhccdkdiaa
