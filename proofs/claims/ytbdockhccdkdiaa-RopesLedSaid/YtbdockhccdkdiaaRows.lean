/-
  No cell of these rows narrows 'for every input' (looked for: loops, veiled, ifaces, maps, wideKeys, modest, calm, conditions, laid).
  DERIVED. THE GIVEN ROWS OF THIS SEAT. 3 by the template 'for every input the law returns true; each argument reads behind the call as it read before'; 0 by the template 'total and deterministic' (their statements: YtbdockhccdkdiaaTotals.lean).
  GIVEN WITH THE SEED: the statements are not yours to turn. If you find one false, say at which input.
  Laid BY PROGRAM, IN A SANDBOX (cutbox-rows.mjs): the forced cells as the released guide's own fill.sh prints them over the translation cc8f8dc220fb80f1… (all of the seat's roots in one cut). By AI agents, Wed Nov 11 2026. No macro, syntax, notation, axiom, sorry.
-/
import Derived.Test.YtbdockhccdkdiaaChecked
import GoSem.Claim
import GoSem.ClaimJoined
import GoSem.ClaimMapViews
import Derived.JoinedTies
import Derived.KernelRfl
namespace Go.Proofs.Ytbdockhccdkdiaa
/- THE CELL 'sum', in the pinned program and in every row, IS THE sha256 OF THE DUMP (.gsa) THAT YtbdockhccdkdiaaProg.lean LOADS. Nothing in Lean hashes anything: it is a label: what it is worth is what the hold of that sum in a sandbox is worth. -/
noncomputable def Try.pinned : Pinned := { name := "ytbdockhccdkdiaa", sum := "cc8f8dc220fb80f188587595446d1c261ad3453d409710f607382b192f6d7dcd", checked := Try.checked }
namespace Rows
def none {H : Type} : Left H := { results := [], args := [] }

/-- 'bivouaclaw09.RopesLevel': WHATEVER THE INPUT: true; the input reads as it did. -/
def ropesLevelSpec : ChangeSpec := { name := "ropesLevel", fn := fun _ => fun
  | [d1, d2] => { results := [.lit (.bool true)], args := [d1, d2] }
  | _ => none }
def ropesLevelRow : OpenClaim := { program := "ytbdockhccdkdiaa", sum := "cc8f8dc220fb80f188587595446d1c261ad3453d409710f607382b192f6d7dcd", func := "bivouac/bivouaclaw09.RopesLevel", spec := "ropesLevel", unfollowed := true, recurses := true, apart := false }
def RopesLevelSaid : Prop := ropesLevelRow.holds Try.pinned (OpenSpec.ofChange ropesLevelSpec)

/-- ITS FALSE NEIGHBOUR: 'it returns false'. Refute it at one input. -/
def ropesLevelWrong : ChangeSpec := { name := "ropesLevel", fn := fun _ => fun
  | [d1, d2] => { results := [.lit (.bool false)], args := [d1, d2] }
  | _ => none }
def RopesLevelWrongFalsely : Prop := ropesLevelRow.holds Try.pinned (OpenSpec.ofChange ropesLevelWrong)

/-- 'bivouaclaw09.RopesTeams': WHATEVER THE INPUT: true; the input reads as it did. -/
def ropesTeamsSpec : ChangeSpec := { name := "ropesTeams", fn := fun _ => fun
  | [d] => { results := [.lit (.bool true)], args := [d] }
  | _ => none }
def ropesTeamsRow : OpenClaim := { program := "ytbdockhccdkdiaa", sum := "cc8f8dc220fb80f188587595446d1c261ad3453d409710f607382b192f6d7dcd", func := "bivouac/bivouaclaw09.RopesTeams", spec := "ropesTeams", unfollowed := true, recurses := true, apart := false }
def RopesTeamsSaid : Prop := ropesTeamsRow.holds Try.pinned (OpenSpec.ofChange ropesTeamsSpec)

/-- ITS FALSE NEIGHBOUR: 'it returns false'. Refute it at one input. -/
def ropesTeamsWrong : ChangeSpec := { name := "ropesTeams", fn := fun _ => fun
  | [d] => { results := [.lit (.bool false)], args := [d] }
  | _ => none }
def RopesTeamsWrongFalsely : Prop := ropesTeamsRow.holds Try.pinned (OpenSpec.ofChange ropesTeamsWrong)

/-- 'bivouaclaw09.RopesLed': WHATEVER THE INPUT: true; the input reads as it did. -/
def ropesLedSpec : ChangeSpec := { name := "ropesLed", fn := fun _ => fun
  | [d1, d2, d3] => { results := [.lit (.bool true)], args := [d1, d2, d3] }
  | _ => none }
def ropesLedRow : OpenClaim := { program := "ytbdockhccdkdiaa", sum := "cc8f8dc220fb80f188587595446d1c261ad3453d409710f607382b192f6d7dcd", func := "bivouac/bivouaclaw09.RopesLed", spec := "ropesLed", unfollowed := true, recurses := true, apart := false }
def RopesLedSaid : Prop := ropesLedRow.holds Try.pinned (OpenSpec.ofChange ropesLedSpec)

/-- ITS FALSE NEIGHBOUR: 'it returns false'. Refute it at one input. -/
def ropesLedWrong : ChangeSpec := { name := "ropesLed", fn := fun _ => fun
  | [d1, d2, d3] => { results := [.lit (.bool false)], args := [d1, d2, d3] }
  | _ => none }
def RopesLedWrongFalsely : Prop := ropesLedRow.holds Try.pinned (OpenSpec.ofChange ropesLedWrong)

/- THE SECOND FORM. 'bulk': how many values and letters a reading holds, each counted each time it is reached (what is shared counts as often as it is met; a slice's spare places count too). A statement '..UptoSaid' is the law's where the arguments, and the package variables that the reading takes, are together of bulk at most 1048576: NARROWER than '..Said'. Prove '..Said' where nothing that the law and all that it calls make is longer than what came in: it says more and counts as full. Else prove '..UptoSaid'. A law counts once. -/
mutual
def uptoBulk {H : Type} : DataW H → Nat
  | .lit (.string bytes) => bytes.length + 1
  | .lit _ => 1
  | .nil => 1
  | .ptr d => uptoBulk d + 1
  | .slice elems spare => uptoBulkAll elems + uptoBulkAll spare + 1
  | .agg parts => uptoBulkAll parts + 1
  | .iface _ d => uptoBulk d + 1
  | .map entries => uptoBulkEntries entries + 1
  | .held _ => 1
def uptoBulkAll {H : Type} : List (DataW H) → Nat
  | [] => 0
  | d :: r => uptoBulk d + uptoBulkAll r
def uptoBulkEntries {H : Type} : List (Lit × DataW H) → Nat
  | [] => 0
  | x :: r => uptoBulkEntry x + uptoBulkEntries r
def uptoBulkEntry {H : Type} : Lit × DataW H → Nat
  | (.string bytes, d) => bytes.length + uptoBulk d + 1
  | (_, d) => uptoBulk d + 1
 end
def uptoSmall : (H : Type) → List (DataW H) → Bool := fun _ ds => decide (uptoBulkAll ds ≤ 1048576)
def OpenSpec.upto (s : _root_.Go.ChangeSpec) : _root_.Go.OpenSpec := { _root_.Go.OpenSpec.ofChange s with cond := some uptoSmall }

/-- 'bivouaclaw09.RopesLevel', WHERE WHAT IT READS IS OF BULK AT MOST 1048576: true; the input reads as it did. -/
def ropesLevelUptoRow : OpenClaim := { program := "ytbdockhccdkdiaa", sum := "cc8f8dc220fb80f188587595446d1c261ad3453d409710f607382b192f6d7dcd", func := "bivouac/bivouaclaw09.RopesLevel", spec := "ropesLevel", unfollowed := true, recurses := true, apart := false, narrowed := true }
def RopesLevelUptoSaid : Prop := ropesLevelUptoRow.holds Try.pinned (OpenSpec.upto ropesLevelSpec)

/-- 'bivouaclaw09.RopesTeams', WHERE WHAT IT READS IS OF BULK AT MOST 1048576: true; the input reads as it did. -/
def ropesTeamsUptoRow : OpenClaim := { program := "ytbdockhccdkdiaa", sum := "cc8f8dc220fb80f188587595446d1c261ad3453d409710f607382b192f6d7dcd", func := "bivouac/bivouaclaw09.RopesTeams", spec := "ropesTeams", unfollowed := true, recurses := true, apart := false, narrowed := true }
def RopesTeamsUptoSaid : Prop := ropesTeamsUptoRow.holds Try.pinned (OpenSpec.upto ropesTeamsSpec)

/-- 'bivouaclaw09.RopesLed', WHERE WHAT IT READS IS OF BULK AT MOST 1048576: true; the input reads as it did. -/
def ropesLedUptoRow : OpenClaim := { program := "ytbdockhccdkdiaa", sum := "cc8f8dc220fb80f188587595446d1c261ad3453d409710f607382b192f6d7dcd", func := "bivouac/bivouaclaw09.RopesLed", spec := "ropesLed", unfollowed := true, recurses := true, apart := false, narrowed := true }
def RopesLedUptoSaid : Prop := ropesLedUptoRow.holds Try.pinned (OpenSpec.upto ropesLedSpec)

end Rows
end Go.Proofs.Ytbdockhccdkdiaa
