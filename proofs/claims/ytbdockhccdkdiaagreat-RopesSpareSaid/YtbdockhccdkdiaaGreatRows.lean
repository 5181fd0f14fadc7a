/-
  No cell of these rows narrows 'for every input' (looked for: loops, veiled, ifaces, maps, wideKeys, modest, calm, conditions, laid).
  DERIVED. THE GIVEN ROWS OF THIS SEAT. 3 by the template 'for every input the law returns true; each argument reads behind the call as it read before'; 0 by the template 'total and deterministic' (their statements: YtbdockhccdkdiaaGreatTotals.lean).
  GIVEN WITH THE SEED: the statements are not yours to turn. If you find one false, say at which input.
  Laid BY PROGRAM, IN A SANDBOX (cutbox-rows.mjs): the forced cells as the released guide's own fill.sh prints them over the translation 5c903ccc02544fda… (all of the seat's roots in one cut). By AI agents, Wed Nov 11 2026. No macro, syntax, notation, axiom, sorry.
-/
import Derived.Test.YtbdockhccdkdiaaGreatChecked
import GoSem.Claim
import GoSem.ClaimJoined
import GoSem.ClaimMapViews
import Derived.JoinedTies
import Derived.KernelRfl
namespace Go.Proofs.YtbdockhccdkdiaaGreat
/- THE CELL 'sum', in the pinned program and in every row, IS THE sha256 OF THE DUMP (.gsa) THAT YtbdockhccdkdiaaGreatProg.lean LOADS. Nothing in Lean hashes anything: it is a label: what it is worth is what the hold of that sum in a sandbox is worth. -/
noncomputable def Tryz.pinned : Pinned := { name := "ytbdockhccdkdiaagreat", sum := "5c903ccc02544fda1400eea0dfb8a42f73702c0df54c41bea32d733fab62eb72", checked := Tryz.checked }
namespace Rows
def none {H : Type} : Left H := { results := [], args := [] }

/-- 'bivouaclaw09.RopesBear': WHATEVER THE INPUT: true; the input reads as it did. -/
def ropesBearSpec : ChangeSpec := { name := "ropesBear", fn := fun _ => fun
  | [d1, d2] => { results := [.lit (.bool true)], args := [d1, d2] }
  | _ => none }
def ropesBearRow : OpenClaim := { program := "ytbdockhccdkdiaagreat", sum := "5c903ccc02544fda1400eea0dfb8a42f73702c0df54c41bea32d733fab62eb72", func := "bivouac/bivouaclaw09.RopesBear", spec := "ropesBear", unfollowed := true, recurses := true, apart := false }
def RopesBearSaid : Prop := ropesBearRow.holds Tryz.pinned (OpenSpec.ofChange ropesBearSpec)

/-- ITS FALSE NEIGHBOUR: 'it returns false'. Refute it at one input. -/
def ropesBearWrong : ChangeSpec := { name := "ropesBear", fn := fun _ => fun
  | [d1, d2] => { results := [.lit (.bool false)], args := [d1, d2] }
  | _ => none }
def RopesBearWrongFalsely : Prop := ropesBearRow.holds Tryz.pinned (OpenSpec.ofChange ropesBearWrong)

/-- 'bivouaclaw09.RopesHolds': WHATEVER THE INPUT: true; the input reads as it did. -/
def ropesHoldsSpec : ChangeSpec := { name := "ropesHolds", fn := fun _ => fun
  | [d1, d2, d3] => { results := [.lit (.bool true)], args := [d1, d2, d3] }
  | _ => none }
def ropesHoldsRow : OpenClaim := { program := "ytbdockhccdkdiaagreat", sum := "5c903ccc02544fda1400eea0dfb8a42f73702c0df54c41bea32d733fab62eb72", func := "bivouac/bivouaclaw09.RopesHolds", spec := "ropesHolds", unfollowed := true, recurses := true, apart := false }
def RopesHoldsSaid : Prop := ropesHoldsRow.holds Tryz.pinned (OpenSpec.ofChange ropesHoldsSpec)

/-- ITS FALSE NEIGHBOUR: 'it returns false'. Refute it at one input. -/
def ropesHoldsWrong : ChangeSpec := { name := "ropesHolds", fn := fun _ => fun
  | [d1, d2, d3] => { results := [.lit (.bool false)], args := [d1, d2, d3] }
  | _ => none }
def RopesHoldsWrongFalsely : Prop := ropesHoldsRow.holds Tryz.pinned (OpenSpec.ofChange ropesHoldsWrong)

/-- 'bivouaclaw09.RopesSpare': WHATEVER THE INPUT: true; the input reads as it did. -/
def ropesSpareSpec : ChangeSpec := { name := "ropesSpare", fn := fun _ => fun
  | [d1, d2, d3] => { results := [.lit (.bool true)], args := [d1, d2, d3] }
  | _ => none }
def ropesSpareRow : OpenClaim := { program := "ytbdockhccdkdiaagreat", sum := "5c903ccc02544fda1400eea0dfb8a42f73702c0df54c41bea32d733fab62eb72", func := "bivouac/bivouaclaw09.RopesSpare", spec := "ropesSpare", unfollowed := true, recurses := true, apart := false }
def RopesSpareSaid : Prop := ropesSpareRow.holds Tryz.pinned (OpenSpec.ofChange ropesSpareSpec)

/-- ITS FALSE NEIGHBOUR: 'it returns false'. Refute it at one input. -/
def ropesSpareWrong : ChangeSpec := { name := "ropesSpare", fn := fun _ => fun
  | [d1, d2, d3] => { results := [.lit (.bool false)], args := [d1, d2, d3] }
  | _ => none }
def RopesSpareWrongFalsely : Prop := ropesSpareRow.holds Tryz.pinned (OpenSpec.ofChange ropesSpareWrong)

/- THE SECOND FORM. 'bulk': how many values and letters a reading holds, each counted each time it is reached (what is shared counts as often as it is met; a slice's spare places count too). A statement '..UptoSaid' is the law's where the arguments, and the package variables that the reading takes, are together of bulk at most 1048576: NARROWER than '..Said'. Prove '..Said' where nothing that the law and all that it calls make is longer than what came in: it says more and counts as full. Else prove '..UptoSaid'. A law counts once. -/
mutual
def uptoBulk {H : Type} : DataW H → Nat
  | .lit (.string bytes) => bytes.length + 1
  | .lit _ => 1
  | .nil => 1
  | .ptr d => uptoBulk d + 1
  | .slice elems spare => uptoBulkAll elems + uptoBulkAll spare + 1
  | .agg parts => uptoBulkAll parts + 1
  | .iface _ d => uptoBulk d + 1
  | .map entries => uptoBulkEntries entries + 1
  | .held _ => 1
def uptoBulkAll {H : Type} : List (DataW H) → Nat
  | [] => 0
  | d :: r => uptoBulk d + uptoBulkAll r
def uptoBulkEntries {H : Type} : List (Lit × DataW H) → Nat
  | [] => 0
  | x :: r => uptoBulkEntry x + uptoBulkEntries r
def uptoBulkEntry {H : Type} : Lit × DataW H → Nat
  | (.string bytes, d) => bytes.length + uptoBulk d + 1
  | (_, d) => uptoBulk d + 1
 end
def uptoSmall : (H : Type) → List (DataW H) → Bool := fun _ ds => decide (uptoBulkAll ds ≤ 1048576)
def OpenSpec.upto (s : _root_.Go.ChangeSpec) : _root_.Go.OpenSpec := { _root_.Go.OpenSpec.ofChange s with cond := some uptoSmall }

/-- 'bivouaclaw09.RopesBear', WHERE WHAT IT READS IS OF BULK AT MOST 1048576: true; the input reads as it did. -/
def ropesBearUptoRow : OpenClaim := { program := "ytbdockhccdkdiaagreat", sum := "5c903ccc02544fda1400eea0dfb8a42f73702c0df54c41bea32d733fab62eb72", func := "bivouac/bivouaclaw09.RopesBear", spec := "ropesBear", unfollowed := true, recurses := true, apart := false, narrowed := true }
def RopesBearUptoSaid : Prop := ropesBearUptoRow.holds Tryz.pinned (OpenSpec.upto ropesBearSpec)

/-- 'bivouaclaw09.RopesHolds', WHERE WHAT IT READS IS OF BULK AT MOST 1048576: true; the input reads as it did. -/
def ropesHoldsUptoRow : OpenClaim := { program := "ytbdockhccdkdiaagreat", sum := "5c903ccc02544fda1400eea0dfb8a42f73702c0df54c41bea32d733fab62eb72", func := "bivouac/bivouaclaw09.RopesHolds", spec := "ropesHolds", unfollowed := true, recurses := true, apart := false, narrowed := true }
def RopesHoldsUptoSaid : Prop := ropesHoldsUptoRow.holds Tryz.pinned (OpenSpec.upto ropesHoldsSpec)

/-- 'bivouaclaw09.RopesSpare', WHERE WHAT IT READS IS OF BULK AT MOST 1048576: true; the input reads as it did. -/
def ropesSpareUptoRow : OpenClaim := { program := "ytbdockhccdkdiaagreat", sum := "5c903ccc02544fda1400eea0dfb8a42f73702c0df54c41bea32d733fab62eb72", func := "bivouac/bivouaclaw09.RopesSpare", spec := "ropesSpare", unfollowed := true, recurses := true, apart := false, narrowed := true }
def RopesSpareUptoSaid : Prop := ropesSpareUptoRow.holds Tryz.pinned (OpenSpec.upto ropesSpareSpec)

end Rows
end Go.Proofs.YtbdockhccdkdiaaGreat
