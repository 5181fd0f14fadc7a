/-
  No cell of these rows narrows 'for every input' (looked for: loops, veiled, ifaces, maps, wideKeys, modest, calm, conditions, laid).
  DERIVED. THE GIVEN ROWS OF THIS SEAT. 6 by the template 'for every input the law returns true; each argument reads behind the call as it read before'; 0 by the template 'total and deterministic' (their statements: YtcjgodgpaokbnaaTotals.lean).
  GIVEN WITH THE SEED: the statements are not yours to turn. If you find one false, say at which input.
  Laid BY PROGRAM, IN A SANDBOX (cutbox-rows.mjs): the forced cells as the released guide's own fill.sh prints them over the translation af9a2252002aea55… (all of the seat's roots in one cut). By AI agents, Wed Nov 11 2026. No macro, syntax, notation, axiom, sorry.
-/
import Derived.Test.YtcjgodgpaokbnaaChecked
import GoSem.Claim
import GoSem.ClaimJoined
import GoSem.ClaimMapViews
import Derived.JoinedTies
import Derived.KernelRfl
namespace Go.Proofs.Ytcjgodgpaokbnaa
/- THE CELL 'sum', in the pinned program and in every row, IS THE sha256 OF THE DUMP (.gsa) THAT YtcjgodgpaokbnaaProg.lean LOADS. Nothing in Lean hashes anything: it is a label: what it is worth is what the hold of that sum in a sandbox is worth. -/
noncomputable def Try.pinned : Pinned := { name := "ytcjgodgpaokbnaa", sum := "af9a2252002aea554b788c05dcef55a90a3f9b7719cf3c4150a7ee4c4e0f2d32", checked := Try.checked }
namespace Rows
def none {H : Type} : Left H := { results := [], args := [] }

/-- 'bivouaclaw02.BedsCancelled': WHATEVER THE INPUT: true; the input reads as it did. -/
def bedsCancelledSpec : ChangeSpec := { name := "bedsCancelled", fn := fun _ => fun
  | [d1, d2, d3] => { results := [.lit (.bool true)], args := [d1, d2, d3] }
  | _ => none }
def bedsCancelledRow : OpenClaim := { program := "ytcjgodgpaokbnaa", sum := "af9a2252002aea554b788c05dcef55a90a3f9b7719cf3c4150a7ee4c4e0f2d32", func := "bivouac/bivouaclaw02.BedsCancelled", spec := "bedsCancelled", unfollowed := true, recurses := true, plainKeys := false, apart := false }
def BedsCancelledSaid : Prop := bedsCancelledRow.holds Try.pinned (OpenSpec.ofChange bedsCancelledSpec)

/-- ITS FALSE NEIGHBOUR: 'it returns false'. Refute it at one input. -/
def bedsCancelledWrong : ChangeSpec := { name := "bedsCancelled", fn := fun _ => fun
  | [d1, d2, d3] => { results := [.lit (.bool false)], args := [d1, d2, d3] }
  | _ => none }
def BedsCancelledWrongFalsely : Prop := bedsCancelledRow.holds Try.pinned (OpenSpec.ofChange bedsCancelledWrong)

/-- 'bivouaclaw02.BedsFreed': WHATEVER THE INPUT: true; the input reads as it did. -/
def bedsFreedSpec : ChangeSpec := { name := "bedsFreed", fn := fun _ => fun
  | [d1, d2, d3] => { results := [.lit (.bool true)], args := [d1, d2, d3] }
  | _ => none }
def bedsFreedRow : OpenClaim := { program := "ytcjgodgpaokbnaa", sum := "af9a2252002aea554b788c05dcef55a90a3f9b7719cf3c4150a7ee4c4e0f2d32", func := "bivouac/bivouaclaw02.BedsFreed", spec := "bedsFreed", unfollowed := true, recurses := true, plainKeys := false, apart := false }
def BedsFreedSaid : Prop := bedsFreedRow.holds Try.pinned (OpenSpec.ofChange bedsFreedSpec)

/-- ITS FALSE NEIGHBOUR: 'it returns false'. Refute it at one input. -/
def bedsFreedWrong : ChangeSpec := { name := "bedsFreed", fn := fun _ => fun
  | [d1, d2, d3] => { results := [.lit (.bool false)], args := [d1, d2, d3] }
  | _ => none }
def BedsFreedWrongFalsely : Prop := bedsFreedRow.holds Try.pinned (OpenSpec.ofChange bedsFreedWrong)

/-- 'bivouaclaw02.BedsNobody': WHATEVER THE INPUT: true; the input reads as it did. -/
def bedsNobodySpec : ChangeSpec := { name := "bedsNobody", fn := fun _ => fun
  | [d1, d2, d3] => { results := [.lit (.bool true)], args := [d1, d2, d3] }
  | _ => none }
def bedsNobodyRow : OpenClaim := { program := "ytcjgodgpaokbnaa", sum := "af9a2252002aea554b788c05dcef55a90a3f9b7719cf3c4150a7ee4c4e0f2d32", func := "bivouac/bivouaclaw02.BedsNobody", spec := "bedsNobody", unfollowed := true, recurses := true, plainKeys := false, apart := false }
def BedsNobodySaid : Prop := bedsNobodyRow.holds Try.pinned (OpenSpec.ofChange bedsNobodySpec)

/-- ITS FALSE NEIGHBOUR: 'it returns false'. Refute it at one input. -/
def bedsNobodyWrong : ChangeSpec := { name := "bedsNobody", fn := fun _ => fun
  | [d1, d2, d3] => { results := [.lit (.bool false)], args := [d1, d2, d3] }
  | _ => none }
def BedsNobodyWrongFalsely : Prop := bedsNobodyRow.holds Try.pinned (OpenSpec.ofChange bedsNobodyWrong)

/-- 'bivouaclaw02.BedsAnyOrder': WHATEVER THE INPUT: true; the input reads as it did. -/
def bedsAnyOrderSpec : ChangeSpec := { name := "bedsAnyOrder", fn := fun _ => fun
  | [d1, d2, d3] => { results := [.lit (.bool true)], args := [d1, d2, d3] }
  | _ => none }
def bedsAnyOrderRow : OpenClaim := { program := "ytcjgodgpaokbnaa", sum := "af9a2252002aea554b788c05dcef55a90a3f9b7719cf3c4150a7ee4c4e0f2d32", func := "bivouac/bivouaclaw02.BedsAnyOrder", spec := "bedsAnyOrder", unfollowed := true, recurses := true, plainKeys := false, apart := false }
def BedsAnyOrderSaid : Prop := bedsAnyOrderRow.holds Try.pinned (OpenSpec.ofChange bedsAnyOrderSpec)

/-- ITS FALSE NEIGHBOUR: 'it returns false'. Refute it at one input. -/
def bedsAnyOrderWrong : ChangeSpec := { name := "bedsAnyOrder", fn := fun _ => fun
  | [d1, d2, d3] => { results := [.lit (.bool false)], args := [d1, d2, d3] }
  | _ => none }
def BedsAnyOrderWrongFalsely : Prop := bedsAnyOrderRow.holds Try.pinned (OpenSpec.ofChange bedsAnyOrderWrong)

/-- 'bivouaclaw02.BedsMerges': WHATEVER THE INPUT: true; the input reads as it did. -/
def bedsMergesSpec : ChangeSpec := { name := "bedsMerges", fn := fun _ => fun
  | [d1, d2, d3] => { results := [.lit (.bool true)], args := [d1, d2, d3] }
  | _ => none }
def bedsMergesRow : OpenClaim := { program := "ytcjgodgpaokbnaa", sum := "af9a2252002aea554b788c05dcef55a90a3f9b7719cf3c4150a7ee4c4e0f2d32", func := "bivouac/bivouaclaw02.BedsMerges", spec := "bedsMerges", unfollowed := true, recurses := true, plainKeys := false, apart := false }
def BedsMergesSaid : Prop := bedsMergesRow.holds Try.pinned (OpenSpec.ofChange bedsMergesSpec)

/-- ITS FALSE NEIGHBOUR: 'it returns false'. Refute it at one input. -/
def bedsMergesWrong : ChangeSpec := { name := "bedsMerges", fn := fun _ => fun
  | [d1, d2, d3] => { results := [.lit (.bool false)], args := [d1, d2, d3] }
  | _ => none }
def BedsMergesWrongFalsely : Prop := bedsMergesRow.holds Try.pinned (OpenSpec.ofChange bedsMergesWrong)

/-- 'bivouaclaw02.BedsFair': WHATEVER THE INPUT: true; the input reads as it did. -/
def bedsFairSpec : ChangeSpec := { name := "bedsFair", fn := fun _ => fun
  | [d1, d2, d3] => { results := [.lit (.bool true)], args := [d1, d2, d3] }
  | _ => none }
def bedsFairRow : OpenClaim := { program := "ytcjgodgpaokbnaa", sum := "af9a2252002aea554b788c05dcef55a90a3f9b7719cf3c4150a7ee4c4e0f2d32", func := "bivouac/bivouaclaw02.BedsFair", spec := "bedsFair", unfollowed := true, recurses := true, plainKeys := false, apart := false }
def BedsFairSaid : Prop := bedsFairRow.holds Try.pinned (OpenSpec.ofChange bedsFairSpec)

/-- ITS FALSE NEIGHBOUR: 'it returns false'. Refute it at one input. -/
def bedsFairWrong : ChangeSpec := { name := "bedsFair", fn := fun _ => fun
  | [d1, d2, d3] => { results := [.lit (.bool false)], args := [d1, d2, d3] }
  | _ => none }
def BedsFairWrongFalsely : Prop := bedsFairRow.holds Try.pinned (OpenSpec.ofChange bedsFairWrong)

/- THE SECOND FORM. 'bulk': how many values and letters a reading holds, each counted each time it is reached (what is shared counts as often as it is met; a slice's spare places count too). A statement '..UptoSaid' is the law's where the arguments, and the package variables that the reading takes, are together of bulk at most 1048576: NARROWER than '..Said'. Prove '..Said' where nothing that the law and all that it calls make is longer than what came in: it says more and counts as full. Else prove '..UptoSaid'. A law counts once. -/
mutual
def uptoBulk {H : Type} : DataW H → Nat
  | .lit (.string bytes) => bytes.length + 1
  | .lit _ => 1
  | .nil => 1
  | .ptr d => uptoBulk d + 1
  | .slice elems spare => uptoBulkAll elems + uptoBulkAll spare + 1
  | .agg parts => uptoBulkAll parts + 1
  | .iface _ d => uptoBulk d + 1
  | .map entries => uptoBulkEntries entries + 1
  | .held _ => 1
def uptoBulkAll {H : Type} : List (DataW H) → Nat
  | [] => 0
  | d :: r => uptoBulk d + uptoBulkAll r
def uptoBulkEntries {H : Type} : List (Lit × DataW H) → Nat
  | [] => 0
  | x :: r => uptoBulkEntry x + uptoBulkEntries r
def uptoBulkEntry {H : Type} : Lit × DataW H → Nat
  | (.string bytes, d) => bytes.length + uptoBulk d + 1
  | (_, d) => uptoBulk d + 1
 end
def uptoSmall : (H : Type) → List (DataW H) → Bool := fun _ ds => decide (uptoBulkAll ds ≤ 1048576)
def OpenSpec.upto (s : _root_.Go.ChangeSpec) : _root_.Go.OpenSpec := { _root_.Go.OpenSpec.ofChange s with cond := some uptoSmall }

/-- 'bivouaclaw02.BedsCancelled', WHERE WHAT IT READS IS OF BULK AT MOST 1048576: true; the input reads as it did. -/
def bedsCancelledUptoRow : OpenClaim := { program := "ytcjgodgpaokbnaa", sum := "af9a2252002aea554b788c05dcef55a90a3f9b7719cf3c4150a7ee4c4e0f2d32", func := "bivouac/bivouaclaw02.BedsCancelled", spec := "bedsCancelled", unfollowed := true, recurses := true, plainKeys := false, apart := false, narrowed := true }
def BedsCancelledUptoSaid : Prop := bedsCancelledUptoRow.holds Try.pinned (OpenSpec.upto bedsCancelledSpec)

/-- 'bivouaclaw02.BedsFreed', WHERE WHAT IT READS IS OF BULK AT MOST 1048576: true; the input reads as it did. -/
def bedsFreedUptoRow : OpenClaim := { program := "ytcjgodgpaokbnaa", sum := "af9a2252002aea554b788c05dcef55a90a3f9b7719cf3c4150a7ee4c4e0f2d32", func := "bivouac/bivouaclaw02.BedsFreed", spec := "bedsFreed", unfollowed := true, recurses := true, plainKeys := false, apart := false, narrowed := true }
def BedsFreedUptoSaid : Prop := bedsFreedUptoRow.holds Try.pinned (OpenSpec.upto bedsFreedSpec)

/-- 'bivouaclaw02.BedsNobody', WHERE WHAT IT READS IS OF BULK AT MOST 1048576: true; the input reads as it did. -/
def bedsNobodyUptoRow : OpenClaim := { program := "ytcjgodgpaokbnaa", sum := "af9a2252002aea554b788c05dcef55a90a3f9b7719cf3c4150a7ee4c4e0f2d32", func := "bivouac/bivouaclaw02.BedsNobody", spec := "bedsNobody", unfollowed := true, recurses := true, plainKeys := false, apart := false, narrowed := true }
def BedsNobodyUptoSaid : Prop := bedsNobodyUptoRow.holds Try.pinned (OpenSpec.upto bedsNobodySpec)

/-- 'bivouaclaw02.BedsAnyOrder', WHERE WHAT IT READS IS OF BULK AT MOST 1048576: true; the input reads as it did. -/
def bedsAnyOrderUptoRow : OpenClaim := { program := "ytcjgodgpaokbnaa", sum := "af9a2252002aea554b788c05dcef55a90a3f9b7719cf3c4150a7ee4c4e0f2d32", func := "bivouac/bivouaclaw02.BedsAnyOrder", spec := "bedsAnyOrder", unfollowed := true, recurses := true, plainKeys := false, apart := false, narrowed := true }
def BedsAnyOrderUptoSaid : Prop := bedsAnyOrderUptoRow.holds Try.pinned (OpenSpec.upto bedsAnyOrderSpec)

/-- 'bivouaclaw02.BedsMerges', WHERE WHAT IT READS IS OF BULK AT MOST 1048576: true; the input reads as it did. -/
def bedsMergesUptoRow : OpenClaim := { program := "ytcjgodgpaokbnaa", sum := "af9a2252002aea554b788c05dcef55a90a3f9b7719cf3c4150a7ee4c4e0f2d32", func := "bivouac/bivouaclaw02.BedsMerges", spec := "bedsMerges", unfollowed := true, recurses := true, plainKeys := false, apart := false, narrowed := true }
def BedsMergesUptoSaid : Prop := bedsMergesUptoRow.holds Try.pinned (OpenSpec.upto bedsMergesSpec)

/-- 'bivouaclaw02.BedsFair', WHERE WHAT IT READS IS OF BULK AT MOST 1048576: true; the input reads as it did. -/
def bedsFairUptoRow : OpenClaim := { program := "ytcjgodgpaokbnaa", sum := "af9a2252002aea554b788c05dcef55a90a3f9b7719cf3c4150a7ee4c4e0f2d32", func := "bivouac/bivouaclaw02.BedsFair", spec := "bedsFair", unfollowed := true, recurses := true, plainKeys := false, apart := false, narrowed := true }
def BedsFairUptoSaid : Prop := bedsFairUptoRow.holds Try.pinned (OpenSpec.upto bedsFairSpec)

end Rows
end Go.Proofs.Ytcjgodgpaokbnaa
