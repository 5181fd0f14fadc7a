/-
  No cell of these rows narrows 'for every input' (looked for: loops, veiled, ifaces, maps, wideKeys, modest, calm, conditions, laid).
  DERIVED. THE GIVEN ROWS OF THIS SEAT. 7 by the template 'for every input the law returns true; each argument reads behind the call as it read before'; 0 by the template 'total and deterministic' (their statements: YtchinfamepolkaaTotals.lean).
  GIVEN WITH THE SEED: the statements are not yours to turn. If you find one false, say at which input.
  Laid BY PROGRAM, IN A SANDBOX (cutbox-rows.mjs): the forced cells as the released guide's own fill.sh prints them over the translation 950ca27511322c77… (all of the seat's roots in one cut). By AI agents, Wed Nov 11 2026. No macro, syntax, notation, axiom, sorry.
-/
import Derived.Test.YtchinfamepolkaaChecked
import GoSem.Claim
import GoSem.ClaimJoined
import GoSem.ClaimMapViews
import Derived.JoinedTies
import Derived.KernelRfl
namespace Go.Proofs.Ytchinfamepolkaa
/- THE CELL 'sum', in the pinned program and in every row, IS THE sha256 OF THE DUMP (.gsa) THAT YtchinfamepolkaaProg.lean LOADS. Nothing in Lean hashes anything: it is a label: what it is worth is what the hold of that sum in a sandbox is worth. -/
noncomputable def Try.pinned : Pinned := { name := "ytchinfamepolkaa", sum := "950ca27511322c77cf83319c1277cd64d8fcf8e3b682196c0d1f60b05d86e65a", checked := Try.checked }
namespace Rows
def none {H : Type} : Left H := { results := [], args := [] }

/-- 'bivouaclaw09.RopesTrue': WHATEVER THE INPUT: true; the input reads as it did. -/
def ropesTrueSpec : ChangeSpec := { name := "ropesTrue", fn := fun _ => fun
  | [d1, d2, d3] => { results := [.lit (.bool true)], args := [d1, d2, d3] }
  | _ => none }
def ropesTrueRow : OpenClaim := { program := "ytchinfamepolkaa", sum := "950ca27511322c77cf83319c1277cd64d8fcf8e3b682196c0d1f60b05d86e65a", func := "bivouac/bivouaclaw09.RopesTrue", spec := "ropesTrue", unfollowed := true, recurses := true, apart := false }
def RopesTrueSaid : Prop := ropesTrueRow.holds Try.pinned (OpenSpec.ofChange ropesTrueSpec)

/-- ITS FALSE NEIGHBOUR: 'it returns false'. Refute it at one input. -/
def ropesTrueWrong : ChangeSpec := { name := "ropesTrue", fn := fun _ => fun
  | [d1, d2, d3] => { results := [.lit (.bool false)], args := [d1, d2, d3] }
  | _ => none }
def RopesTrueWrongFalsely : Prop := ropesTrueRow.holds Try.pinned (OpenSpec.ofChange ropesTrueWrong)

/-- 'bivouaclaw09.RopesPosts': WHATEVER THE INPUT: true; the input reads as it did. -/
def ropesPostsSpec : ChangeSpec := { name := "ropesPosts", fn := fun _ => fun
  | [d1, d2, d3] => { results := [.lit (.bool true)], args := [d1, d2, d3] }
  | _ => none }
def ropesPostsRow : OpenClaim := { program := "ytchinfamepolkaa", sum := "950ca27511322c77cf83319c1277cd64d8fcf8e3b682196c0d1f60b05d86e65a", func := "bivouac/bivouaclaw09.RopesPosts", spec := "ropesPosts", unfollowed := true, recurses := true, apart := false }
def RopesPostsSaid : Prop := ropesPostsRow.holds Try.pinned (OpenSpec.ofChange ropesPostsSpec)

/-- ITS FALSE NEIGHBOUR: 'it returns false'. Refute it at one input. -/
def ropesPostsWrong : ChangeSpec := { name := "ropesPosts", fn := fun _ => fun
  | [d1, d2, d3] => { results := [.lit (.bool false)], args := [d1, d2, d3] }
  | _ => none }
def RopesPostsWrongFalsely : Prop := ropesPostsRow.holds Try.pinned (OpenSpec.ofChange ropesPostsWrong)

/-- 'bivouaclaw09.RopesLevel': WHATEVER THE INPUT: true; the input reads as it did. -/
def ropesLevelSpec : ChangeSpec := { name := "ropesLevel", fn := fun _ => fun
  | [d1, d2] => { results := [.lit (.bool true)], args := [d1, d2] }
  | _ => none }
def ropesLevelRow : OpenClaim := { program := "ytchinfamepolkaa", sum := "950ca27511322c77cf83319c1277cd64d8fcf8e3b682196c0d1f60b05d86e65a", func := "bivouac/bivouaclaw09.RopesLevel", spec := "ropesLevel", unfollowed := true, recurses := true, apart := false }
def RopesLevelSaid : Prop := ropesLevelRow.holds Try.pinned (OpenSpec.ofChange ropesLevelSpec)

/-- ITS FALSE NEIGHBOUR: 'it returns false'. Refute it at one input. -/
def ropesLevelWrong : ChangeSpec := { name := "ropesLevel", fn := fun _ => fun
  | [d1, d2] => { results := [.lit (.bool false)], args := [d1, d2] }
  | _ => none }
def RopesLevelWrongFalsely : Prop := ropesLevelRow.holds Try.pinned (OpenSpec.ofChange ropesLevelWrong)

/-- 'bivouaclaw09.RopesTeams': WHATEVER THE INPUT: true; the input reads as it did. -/
def ropesTeamsSpec : ChangeSpec := { name := "ropesTeams", fn := fun _ => fun
  | [d] => { results := [.lit (.bool true)], args := [d] }
  | _ => none }
def ropesTeamsRow : OpenClaim := { program := "ytchinfamepolkaa", sum := "950ca27511322c77cf83319c1277cd64d8fcf8e3b682196c0d1f60b05d86e65a", func := "bivouac/bivouaclaw09.RopesTeams", spec := "ropesTeams", unfollowed := true, recurses := true, apart := false }
def RopesTeamsSaid : Prop := ropesTeamsRow.holds Try.pinned (OpenSpec.ofChange ropesTeamsSpec)

/-- ITS FALSE NEIGHBOUR: 'it returns false'. Refute it at one input. -/
def ropesTeamsWrong : ChangeSpec := { name := "ropesTeams", fn := fun _ => fun
  | [d] => { results := [.lit (.bool false)], args := [d] }
  | _ => none }
def RopesTeamsWrongFalsely : Prop := ropesTeamsRow.holds Try.pinned (OpenSpec.ofChange ropesTeamsWrong)

/-- 'bivouaclaw09.RopesWear': WHATEVER THE INPUT: true; the input reads as it did. -/
def ropesWearSpec : ChangeSpec := { name := "ropesWear", fn := fun _ => fun
  | [d1, d2, d3] => { results := [.lit (.bool true)], args := [d1, d2, d3] }
  | _ => none }
def ropesWearRow : OpenClaim := { program := "ytchinfamepolkaa", sum := "950ca27511322c77cf83319c1277cd64d8fcf8e3b682196c0d1f60b05d86e65a", func := "bivouac/bivouaclaw09.RopesWear", spec := "ropesWear", unfollowed := true, recurses := true, apart := false }
def RopesWearSaid : Prop := ropesWearRow.holds Try.pinned (OpenSpec.ofChange ropesWearSpec)

/-- ITS FALSE NEIGHBOUR: 'it returns false'. Refute it at one input. -/
def ropesWearWrong : ChangeSpec := { name := "ropesWear", fn := fun _ => fun
  | [d1, d2, d3] => { results := [.lit (.bool false)], args := [d1, d2, d3] }
  | _ => none }
def RopesWearWrongFalsely : Prop := ropesWearRow.holds Try.pinned (OpenSpec.ofChange ropesWearWrong)

/-- 'bivouaclaw09.RopesOlder': WHATEVER THE INPUT: true; the input reads as it did. -/
def ropesOlderSpec : ChangeSpec := { name := "ropesOlder", fn := fun _ => fun
  | [d1, d2, d3] => { results := [.lit (.bool true)], args := [d1, d2, d3] }
  | _ => none }
def ropesOlderRow : OpenClaim := { program := "ytchinfamepolkaa", sum := "950ca27511322c77cf83319c1277cd64d8fcf8e3b682196c0d1f60b05d86e65a", func := "bivouac/bivouaclaw09.RopesOlder", spec := "ropesOlder", unfollowed := true, recurses := true, apart := false }
def RopesOlderSaid : Prop := ropesOlderRow.holds Try.pinned (OpenSpec.ofChange ropesOlderSpec)

/-- ITS FALSE NEIGHBOUR: 'it returns false'. Refute it at one input. -/
def ropesOlderWrong : ChangeSpec := { name := "ropesOlder", fn := fun _ => fun
  | [d1, d2, d3] => { results := [.lit (.bool false)], args := [d1, d2, d3] }
  | _ => none }
def RopesOlderWrongFalsely : Prop := ropesOlderRow.holds Try.pinned (OpenSpec.ofChange ropesOlderWrong)

/-- 'bivouaclaw09.RopesLed': WHATEVER THE INPUT: true; the input reads as it did. -/
def ropesLedSpec : ChangeSpec := { name := "ropesLed", fn := fun _ => fun
  | [d1, d2, d3] => { results := [.lit (.bool true)], args := [d1, d2, d3] }
  | _ => none }
def ropesLedRow : OpenClaim := { program := "ytchinfamepolkaa", sum := "950ca27511322c77cf83319c1277cd64d8fcf8e3b682196c0d1f60b05d86e65a", func := "bivouac/bivouaclaw09.RopesLed", spec := "ropesLed", unfollowed := true, recurses := true, apart := false }
def RopesLedSaid : Prop := ropesLedRow.holds Try.pinned (OpenSpec.ofChange ropesLedSpec)

/-- ITS FALSE NEIGHBOUR: 'it returns false'. Refute it at one input. -/
def ropesLedWrong : ChangeSpec := { name := "ropesLed", fn := fun _ => fun
  | [d1, d2, d3] => { results := [.lit (.bool false)], args := [d1, d2, d3] }
  | _ => none }
def RopesLedWrongFalsely : Prop := ropesLedRow.holds Try.pinned (OpenSpec.ofChange ropesLedWrong)

/- THE SECOND FORM. 'bulk': how many values and letters a reading holds, each counted each time it is reached (what is shared counts as often as it is met; a slice's spare places count too). A statement '..UptoSaid' is the law's where the arguments, and the package variables that the reading takes, are together of bulk at most 1048576: NARROWER than '..Said'. Prove '..Said' where nothing that the law and all that it calls make is longer than what came in: it says more and counts as full. Else prove '..UptoSaid'. A law counts once. -/
mutual
def uptoBulk {H : Type} : DataW H → Nat
  | .lit (.string bytes) => bytes.length + 1
  | .lit _ => 1
  | .nil => 1
  | .ptr d => uptoBulk d + 1
  | .slice elems spare => uptoBulkAll elems + uptoBulkAll spare + 1
  | .agg parts => uptoBulkAll parts + 1
  | .iface _ d => uptoBulk d + 1
  | .map entries => uptoBulkEntries entries + 1
  | .held _ => 1
def uptoBulkAll {H : Type} : List (DataW H) → Nat
  | [] => 0
  | d :: r => uptoBulk d + uptoBulkAll r
def uptoBulkEntries {H : Type} : List (Lit × DataW H) → Nat
  | [] => 0
  | x :: r => uptoBulkEntry x + uptoBulkEntries r
def uptoBulkEntry {H : Type} : Lit × DataW H → Nat
  | (.string bytes, d) => bytes.length + uptoBulk d + 1
  | (_, d) => uptoBulk d + 1
 end
def uptoSmall : (H : Type) → List (DataW H) → Bool := fun _ ds => decide (uptoBulkAll ds ≤ 1048576)
def OpenSpec.upto (s : _root_.Go.ChangeSpec) : _root_.Go.OpenSpec := { _root_.Go.OpenSpec.ofChange s with cond := some uptoSmall }

/-- 'bivouaclaw09.RopesTrue', WHERE WHAT IT READS IS OF BULK AT MOST 1048576: true; the input reads as it did. -/
def ropesTrueUptoRow : OpenClaim := { program := "ytchinfamepolkaa", sum := "950ca27511322c77cf83319c1277cd64d8fcf8e3b682196c0d1f60b05d86e65a", func := "bivouac/bivouaclaw09.RopesTrue", spec := "ropesTrue", unfollowed := true, recurses := true, apart := false, narrowed := true }
def RopesTrueUptoSaid : Prop := ropesTrueUptoRow.holds Try.pinned (OpenSpec.upto ropesTrueSpec)

/-- 'bivouaclaw09.RopesPosts', WHERE WHAT IT READS IS OF BULK AT MOST 1048576: true; the input reads as it did. -/
def ropesPostsUptoRow : OpenClaim := { program := "ytchinfamepolkaa", sum := "950ca27511322c77cf83319c1277cd64d8fcf8e3b682196c0d1f60b05d86e65a", func := "bivouac/bivouaclaw09.RopesPosts", spec := "ropesPosts", unfollowed := true, recurses := true, apart := false, narrowed := true }
def RopesPostsUptoSaid : Prop := ropesPostsUptoRow.holds Try.pinned (OpenSpec.upto ropesPostsSpec)

/-- 'bivouaclaw09.RopesLevel', WHERE WHAT IT READS IS OF BULK AT MOST 1048576: true; the input reads as it did. -/
def ropesLevelUptoRow : OpenClaim := { program := "ytchinfamepolkaa", sum := "950ca27511322c77cf83319c1277cd64d8fcf8e3b682196c0d1f60b05d86e65a", func := "bivouac/bivouaclaw09.RopesLevel", spec := "ropesLevel", unfollowed := true, recurses := true, apart := false, narrowed := true }
def RopesLevelUptoSaid : Prop := ropesLevelUptoRow.holds Try.pinned (OpenSpec.upto ropesLevelSpec)

/-- 'bivouaclaw09.RopesTeams', WHERE WHAT IT READS IS OF BULK AT MOST 1048576: true; the input reads as it did. -/
def ropesTeamsUptoRow : OpenClaim := { program := "ytchinfamepolkaa", sum := "950ca27511322c77cf83319c1277cd64d8fcf8e3b682196c0d1f60b05d86e65a", func := "bivouac/bivouaclaw09.RopesTeams", spec := "ropesTeams", unfollowed := true, recurses := true, apart := false, narrowed := true }
def RopesTeamsUptoSaid : Prop := ropesTeamsUptoRow.holds Try.pinned (OpenSpec.upto ropesTeamsSpec)

/-- 'bivouaclaw09.RopesWear', WHERE WHAT IT READS IS OF BULK AT MOST 1048576: true; the input reads as it did. -/
def ropesWearUptoRow : OpenClaim := { program := "ytchinfamepolkaa", sum := "950ca27511322c77cf83319c1277cd64d8fcf8e3b682196c0d1f60b05d86e65a", func := "bivouac/bivouaclaw09.RopesWear", spec := "ropesWear", unfollowed := true, recurses := true, apart := false, narrowed := true }
def RopesWearUptoSaid : Prop := ropesWearUptoRow.holds Try.pinned (OpenSpec.upto ropesWearSpec)

/-- 'bivouaclaw09.RopesOlder', WHERE WHAT IT READS IS OF BULK AT MOST 1048576: true; the input reads as it did. -/
def ropesOlderUptoRow : OpenClaim := { program := "ytchinfamepolkaa", sum := "950ca27511322c77cf83319c1277cd64d8fcf8e3b682196c0d1f60b05d86e65a", func := "bivouac/bivouaclaw09.RopesOlder", spec := "ropesOlder", unfollowed := true, recurses := true, apart := false, narrowed := true }
def RopesOlderUptoSaid : Prop := ropesOlderUptoRow.holds Try.pinned (OpenSpec.upto ropesOlderSpec)

/-- 'bivouaclaw09.RopesLed', WHERE WHAT IT READS IS OF BULK AT MOST 1048576: true; the input reads as it did. -/
def ropesLedUptoRow : OpenClaim := { program := "ytchinfamepolkaa", sum := "950ca27511322c77cf83319c1277cd64d8fcf8e3b682196c0d1f60b05d86e65a", func := "bivouac/bivouaclaw09.RopesLed", spec := "ropesLed", unfollowed := true, recurses := true, apart := false, narrowed := true }
def RopesLedUptoSaid : Prop := ropesLedUptoRow.holds Try.pinned (OpenSpec.upto ropesLedSpec)

end Rows
end Go.Proofs.Ytchinfamepolkaa
