/- Ropes: how the laws' arguments read. -/
import Derived.Deep.DeepHandedRow
import Derived.ProofKit
import Derived.OpenShut
import Derived.ChangeSame
import Derived.Lib.SmallJoins
import Derived.Test.YtchinfamepolkaaKc
import Derived.Test.YtchinfamepolkaaRps0
import Derived.Test.YtchinfamepolkaaRows
namespace Go.Proofs.Ytchinfamepolkaa
set_option linter.unusedSimpArgs false
set_option linter.unusedVariables false
set_option linter.unusedSectionVars false
open Go Go.Proofs Go.RowKit Go.Shelf
open Go.ChangeShapes Go.WideShapes Go.ChangeAt Go.Deep
theorem ownK : ownKnob Try.prog.godebug = none := by kernel_rfl
theorem laidOutK : laidOutB Try.prog = true := by kernel_rfl
noncomputable def baseWorld (os : Os) : World := World.holding Try.prog os ⟨#[], #[], []⟩
abbrev Sh.i : Sh := .int .i64
def modelSh : List Sh := [.i, .i, .i, .sl [.i, .i]]
def ropeSh : List Sh := [.i, .i, .i, .sl [.i, .i, .i, .i, .i]]
theorem rows_of {α : Type} {l : List Sh} (f : α → List Value) {rows : List (List AV)} (h : ∀ row, row ∈ rows → ShAll l row) (g : ∀ ds, ShAll l ds → ∃ x, ds = (f x).map AV.val) : ∃ xs : List α, rows = xs.map fun x => (f x).map AV.val :=
  list_of (fun x => (f x).map AV.val) rows fun row hr => g row (h row hr)
theorem wear_of (ds : List AV) (h : ShAll [.i, .i] ds) : ∃ x, ds = (wearC x).map AV.val := by
  obtain ⟨_, _, rfl, h0, h⟩ := h.cons
  obtain ⟨_, _, rfl, h1, h⟩ := h.cons
  obtain rfl := h.nil
  obtain ⟨n0, rfl⟩ := h0.int'
  obtain ⟨n1, rfl⟩ := h1.int'
  exact ⟨⟨n0, n1⟩, rfl⟩
theorem fall_of (ds : List AV) (h : ShAll [.i, .i, .i, .i, .i] ds) : ∃ x, ds = (fallC x).map AV.val := by
  obtain ⟨_, _, rfl, h0, h⟩ := h.cons
  obtain ⟨_, _, rfl, h1, h⟩ := h.cons
  obtain ⟨_, _, rfl, h2, h⟩ := h.cons
  obtain ⟨_, _, rfl, h3, h⟩ := h.cons
  obtain ⟨_, _, rfl, h4, h⟩ := h.cons
  obtain rfl := h.nil
  obtain ⟨n0, rfl⟩ := h0.int'
  obtain ⟨n1, rfl⟩ := h1.int'
  obtain ⟨n2, rfl⟩ := h2.int'
  obtain ⟨n3, rfl⟩ := h3.int'
  obtain ⟨n4, rfl⟩ := h4.int'
  exact ⟨⟨n0, n1, n2, n3, n4⟩, rfl⟩
theorem int_of (ds : List AV) (h : ShAll [.i] ds) : ∃ x, ds = (intC x).map AV.val := by
  obtain ⟨_, _, rfl, h0, h⟩ := h.cons
  obtain rfl := h.nil
  obtain ⟨n0, rfl⟩ := h0.int'
  exact ⟨n0, rfl⟩
theorem post_of (ds : List AV) (h : ShAll [.i, .i, .i] ds) : ∃ x, ds = (postC x).map AV.val := by
  obtain ⟨_, _, rfl, h0, h⟩ := h.cons
  obtain ⟨_, _, rfl, h1, h⟩ := h.cons
  obtain ⟨_, _, rfl, h2, h⟩ := h.cons
  obtain rfl := h.nil
  obtain ⟨n0, rfl⟩ := h0.int'
  obtain ⟨n1, rfl⟩ := h1.int'
  obtain ⟨n2, rfl⟩ := h2.int'
  exact ⟨⟨n0, n1, n2⟩, rfl⟩
theorem model_of {ds : List AV} (h : ShAll modelSh ds) : ∃ M, ds = modelA M := by
  obtain ⟨_, _, rfl, h0, h⟩ := h.cons
  obtain ⟨_, _, rfl, h1, h⟩ := h.cons
  obtain ⟨_, _, rfl, h2, h⟩ := h.cons
  obtain ⟨_, _, rfl, h3, h⟩ := h.cons
  obtain rfl := h.nil
  obtain ⟨n0, rfl⟩ := h0.int'
  obtain ⟨n1, rfl⟩ := h1.int'
  obtain ⟨n2, rfl⟩ := h2.int'
  obtain ⟨rows, rfl, k3⟩ := h3.sl'
  obtain ⟨l, rfl⟩ := rows_of wearC k3 wear_of
  exact ⟨⟨n0, n1, n2, l⟩, rfl⟩
theorem rope_of {ds : List AV} (h : ShAll ropeSh ds) : ∃ R, ds = ropeR R := by
  obtain ⟨_, _, rfl, h0, h⟩ := h.cons
  obtain ⟨_, _, rfl, h1, h⟩ := h.cons
  obtain ⟨_, _, rfl, h2, h⟩ := h.cons
  obtain ⟨_, _, rfl, h3, h⟩ := h.cons
  obtain rfl := h.nil
  obtain ⟨n0, rfl⟩ := h0.int'
  obtain ⟨n1, rfl⟩ := h1.int'
  obtain ⟨n2, rfl⟩ := h2.int'
  obtain ⟨rows, rfl, k3⟩ := h3.sl'
  obtain ⟨l, rfl⟩ := rows_of fallC k3 fall_of
  exact ⟨⟨n0, n1, n2, l⟩, rfl⟩
def m00 : Value := .agg #[.int .i64 0, .int .i64 0, .int .i64 0, .slice none 0 0]
end Go.Proofs.Ytchinfamepolkaa
