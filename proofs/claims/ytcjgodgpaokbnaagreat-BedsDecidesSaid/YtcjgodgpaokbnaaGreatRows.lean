/-
  No cell of these rows narrows 'for every input' (looked for: loops, veiled, ifaces, maps, wideKeys, modest, calm, conditions, laid).
  DERIVED. THE GIVEN ROWS OF THIS SEAT. 4 by the template 'for every input the law returns true; each argument reads behind the call as it read before'; 0 by the template 'total and deterministic' (their statements: YtcjgodgpaokbnaaGreatTotals.lean).
  GIVEN WITH THE SEED: the statements are not yours to turn. If you find one false, say at which input.
  Laid BY PROGRAM, IN A SANDBOX (cutbox-rows.mjs): the forced cells as the released guide's own fill.sh prints them over the translation f02251bb6fb4038c… (all of the seat's roots in one cut). By AI agents, Wed Nov 11 2026. No macro, syntax, notation, axiom, sorry.
-/
import Derived.Test.YtcjgodgpaokbnaaGreatChecked
import GoSem.Claim
import GoSem.ClaimJoined
import GoSem.ClaimMapViews
import Derived.JoinedTies
import Derived.KernelRfl
namespace Go.Proofs.YtcjgodgpaokbnaaGreat
/- THE CELL 'sum', in the pinned program and in every row, IS THE sha256 OF THE DUMP (.gsa) THAT YtcjgodgpaokbnaaGreatProg.lean LOADS. Nothing in Lean hashes anything: it is a label: what it is worth is what the hold of that sum in a sandbox is worth. -/
noncomputable def Tryz.pinned : Pinned := { name := "ytcjgodgpaokbnaagreat", sum := "f02251bb6fb4038c3c89f04abe9fceab2059972743f4e99dbd444aed32a7a464", checked := Tryz.checked }
namespace Rows
def none {H : Type} : Left H := { results := [], args := [] }

/-- 'bivouaclaw02.BedsDecides': WHATEVER THE INPUT: true; the input reads as it did. -/
def bedsDecidesSpec : ChangeSpec := { name := "bedsDecides", fn := fun _ => fun
  | [d1, d2, d3] => { results := [.lit (.bool true)], args := [d1, d2, d3] }
  | _ => none }
def bedsDecidesRow : OpenClaim := { program := "ytcjgodgpaokbnaagreat", sum := "f02251bb6fb4038c3c89f04abe9fceab2059972743f4e99dbd444aed32a7a464", func := "bivouac/bivouaclaw02.BedsDecides", spec := "bedsDecides", unfollowed := true, recurses := true, plainKeys := false, apart := false }
def BedsDecidesSaid : Prop := bedsDecidesRow.holds Tryz.pinned (OpenSpec.ofChange bedsDecidesSpec)

/-- ITS FALSE NEIGHBOUR: 'it returns false'. Refute it at one input. -/
def bedsDecidesWrong : ChangeSpec := { name := "bedsDecides", fn := fun _ => fun
  | [d1, d2, d3] => { results := [.lit (.bool false)], args := [d1, d2, d3] }
  | _ => none }
def BedsDecidesWrongFalsely : Prop := bedsDecidesRow.holds Tryz.pinned (OpenSpec.ofChange bedsDecidesWrong)

/-- 'bivouaclaw02.BedsReleased': WHATEVER THE INPUT: true; the input reads as it did. -/
def bedsReleasedSpec : ChangeSpec := { name := "bedsReleased", fn := fun _ => fun
  | [d1, d2, d3] => { results := [.lit (.bool true)], args := [d1, d2, d3] }
  | _ => none }
def bedsReleasedRow : OpenClaim := { program := "ytcjgodgpaokbnaagreat", sum := "f02251bb6fb4038c3c89f04abe9fceab2059972743f4e99dbd444aed32a7a464", func := "bivouac/bivouaclaw02.BedsReleased", spec := "bedsReleased", unfollowed := true, recurses := true, plainKeys := false, apart := false }
def BedsReleasedSaid : Prop := bedsReleasedRow.holds Tryz.pinned (OpenSpec.ofChange bedsReleasedSpec)

/-- ITS FALSE NEIGHBOUR: 'it returns false'. Refute it at one input. -/
def bedsReleasedWrong : ChangeSpec := { name := "bedsReleased", fn := fun _ => fun
  | [d1, d2, d3] => { results := [.lit (.bool false)], args := [d1, d2, d3] }
  | _ => none }
def BedsReleasedWrongFalsely : Prop := bedsReleasedRow.holds Tryz.pinned (OpenSpec.ofChange bedsReleasedWrong)

/-- 'bivouaclaw02.BedsReasons': WHATEVER THE INPUT: true; the input reads as it did. -/
def bedsReasonsSpec : ChangeSpec := { name := "bedsReasons", fn := fun _ => fun
  | [d1, d2, d3] => { results := [.lit (.bool true)], args := [d1, d2, d3] }
  | _ => none }
def bedsReasonsRow : OpenClaim := { program := "ytcjgodgpaokbnaagreat", sum := "f02251bb6fb4038c3c89f04abe9fceab2059972743f4e99dbd444aed32a7a464", func := "bivouac/bivouaclaw02.BedsReasons", spec := "bedsReasons", unfollowed := true, recurses := true, plainKeys := false, apart := false }
def BedsReasonsSaid : Prop := bedsReasonsRow.holds Tryz.pinned (OpenSpec.ofChange bedsReasonsSpec)

/-- ITS FALSE NEIGHBOUR: 'it returns false'. Refute it at one input. -/
def bedsReasonsWrong : ChangeSpec := { name := "bedsReasons", fn := fun _ => fun
  | [d1, d2, d3] => { results := [.lit (.bool false)], args := [d1, d2, d3] }
  | _ => none }
def BedsReasonsWrongFalsely : Prop := bedsReasonsRow.holds Tryz.pinned (OpenSpec.ofChange bedsReasonsWrong)

/-- 'bivouaclaw02.BedsSold': WHATEVER THE INPUT: true; the input reads as it did. -/
def bedsSoldSpec : ChangeSpec := { name := "bedsSold", fn := fun _ => fun
  | [d1, d2, d3] => { results := [.lit (.bool true)], args := [d1, d2, d3] }
  | _ => none }
def bedsSoldRow : OpenClaim := { program := "ytcjgodgpaokbnaagreat", sum := "f02251bb6fb4038c3c89f04abe9fceab2059972743f4e99dbd444aed32a7a464", func := "bivouac/bivouaclaw02.BedsSold", spec := "bedsSold", unfollowed := true, recurses := true, plainKeys := false, apart := false }
def BedsSoldSaid : Prop := bedsSoldRow.holds Tryz.pinned (OpenSpec.ofChange bedsSoldSpec)

/-- ITS FALSE NEIGHBOUR: 'it returns false'. Refute it at one input. -/
def bedsSoldWrong : ChangeSpec := { name := "bedsSold", fn := fun _ => fun
  | [d1, d2, d3] => { results := [.lit (.bool false)], args := [d1, d2, d3] }
  | _ => none }
def BedsSoldWrongFalsely : Prop := bedsSoldRow.holds Tryz.pinned (OpenSpec.ofChange bedsSoldWrong)

/- THE SECOND FORM. 'bulk': how many values and letters a reading holds, each counted each time it is reached (what is shared counts as often as it is met; a slice's spare places count too). A statement '..UptoSaid' is the law's where the arguments, and the package variables that the reading takes, are together of bulk at most 1048576: NARROWER than '..Said'. Prove '..Said' where nothing that the law and all that it calls make is longer than what came in: it says more and counts as full. Else prove '..UptoSaid'. A law counts once. -/
mutual
def uptoBulk {H : Type} : DataW H → Nat
  | .lit (.string bytes) => bytes.length + 1
  | .lit _ => 1
  | .nil => 1
  | .ptr d => uptoBulk d + 1
  | .slice elems spare => uptoBulkAll elems + uptoBulkAll spare + 1
  | .agg parts => uptoBulkAll parts + 1
  | .iface _ d => uptoBulk d + 1
  | .map entries => uptoBulkEntries entries + 1
  | .held _ => 1
def uptoBulkAll {H : Type} : List (DataW H) → Nat
  | [] => 0
  | d :: r => uptoBulk d + uptoBulkAll r
def uptoBulkEntries {H : Type} : List (Lit × DataW H) → Nat
  | [] => 0
  | x :: r => uptoBulkEntry x + uptoBulkEntries r
def uptoBulkEntry {H : Type} : Lit × DataW H → Nat
  | (.string bytes, d) => bytes.length + uptoBulk d + 1
  | (_, d) => uptoBulk d + 1
 end
def uptoSmall : (H : Type) → List (DataW H) → Bool := fun _ ds => decide (uptoBulkAll ds ≤ 1048576)
def OpenSpec.upto (s : _root_.Go.ChangeSpec) : _root_.Go.OpenSpec := { _root_.Go.OpenSpec.ofChange s with cond := some uptoSmall }

/-- 'bivouaclaw02.BedsDecides', WHERE WHAT IT READS IS OF BULK AT MOST 1048576: true; the input reads as it did. -/
def bedsDecidesUptoRow : OpenClaim := { program := "ytcjgodgpaokbnaagreat", sum := "f02251bb6fb4038c3c89f04abe9fceab2059972743f4e99dbd444aed32a7a464", func := "bivouac/bivouaclaw02.BedsDecides", spec := "bedsDecides", unfollowed := true, recurses := true, plainKeys := false, apart := false, narrowed := true }
def BedsDecidesUptoSaid : Prop := bedsDecidesUptoRow.holds Tryz.pinned (OpenSpec.upto bedsDecidesSpec)

/-- 'bivouaclaw02.BedsReleased', WHERE WHAT IT READS IS OF BULK AT MOST 1048576: true; the input reads as it did. -/
def bedsReleasedUptoRow : OpenClaim := { program := "ytcjgodgpaokbnaagreat", sum := "f02251bb6fb4038c3c89f04abe9fceab2059972743f4e99dbd444aed32a7a464", func := "bivouac/bivouaclaw02.BedsReleased", spec := "bedsReleased", unfollowed := true, recurses := true, plainKeys := false, apart := false, narrowed := true }
def BedsReleasedUptoSaid : Prop := bedsReleasedUptoRow.holds Tryz.pinned (OpenSpec.upto bedsReleasedSpec)

/-- 'bivouaclaw02.BedsReasons', WHERE WHAT IT READS IS OF BULK AT MOST 1048576: true; the input reads as it did. -/
def bedsReasonsUptoRow : OpenClaim := { program := "ytcjgodgpaokbnaagreat", sum := "f02251bb6fb4038c3c89f04abe9fceab2059972743f4e99dbd444aed32a7a464", func := "bivouac/bivouaclaw02.BedsReasons", spec := "bedsReasons", unfollowed := true, recurses := true, plainKeys := false, apart := false, narrowed := true }
def BedsReasonsUptoSaid : Prop := bedsReasonsUptoRow.holds Tryz.pinned (OpenSpec.upto bedsReasonsSpec)

/-- 'bivouaclaw02.BedsSold', WHERE WHAT IT READS IS OF BULK AT MOST 1048576: true; the input reads as it did. -/
def bedsSoldUptoRow : OpenClaim := { program := "ytcjgodgpaokbnaagreat", sum := "f02251bb6fb4038c3c89f04abe9fceab2059972743f4e99dbd444aed32a7a464", func := "bivouac/bivouaclaw02.BedsSold", spec := "bedsSold", unfollowed := true, recurses := true, plainKeys := false, apart := false, narrowed := true }
def BedsSoldUptoSaid : Prop := bedsSoldUptoRow.holds Tryz.pinned (OpenSpec.upto bedsSoldSpec)

end Rows
end Go.Proofs.YtcjgodgpaokbnaaGreat
