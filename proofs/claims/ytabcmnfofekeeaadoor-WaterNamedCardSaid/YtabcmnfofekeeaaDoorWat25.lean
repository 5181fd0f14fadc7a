import Derived.Test.YtabcmnfofekeeaaDoorCards
import Derived.Test.YtabcmnfofekeeaaDoorTie
import Derived.WalkKit
import Derived.ProofKit
import Derived.OpenShut
import Derived.Deep.DeepHandedRow
import Derived.Lib.LaidTab
import Derived.LaidSub
import Derived.Carry
import Derived.Deep.RegionHeld
import Derived.Test.YtabcmnfofekeeaaDoorWat24
namespace Go.Proofs.YtabcmnfofekeeaaDoor
open Go Go.Proofs Go.RowKit Go.Shelf
set_option maxHeartbeats 1000000
set_option maxRecDepth 20000
open Go.ChangeShapes Go.WideShapes Go.ChangeAt

theorem own : ownKnob Tryd.prog.godebug = none := by kernel_rfl
theorem laidOut : laidOutB Tryd.prog = true := by kernel_rfl
theorem g64 : Tryd.prog.globalNamed "math/bits.deBruijn64tab" = some 1 := by kernel_rfl
theorem g64Type : (Tryd.prog.globals[1]?).map (·.type) = some 142 := by kernel_rfl
theorem cells64 : Tryd.prog.cellsOf 142 = 64 := by kernel_rfl
theorem cells5 : Tryd.prog.cellsOf 5 = 1 := by kernel_rfl
def tab64 : List Int := [0,1,56,2,57,49,28,3,61,58,42,50,38,29,17,4,62,47,59,36,45,43,51,22,53,39,33,30,24,18,12,5,63,55,48,27,60,41,37,16,46,35,44,21,52,32,23,11,54,26,40,15,34,20,31,10,25,14,19,9,13,8,7,6]
def tab32 : List Int := [0,1,28,2,29,14,24,3,30,22,20,15,25,17,4,8,31,27,13,23,21,19,16,7,26,12,18,6,11,5,10,9]
def laidTabs : List (String × DataW Unit) := [("math/bits.deBruijn32tab", Rows.laid_math_bits_deBruijn32tab), ("math/bits.deBruijn64tab", Rows.laid_math_bits_deBruijn64tab)]
theorem laid_second : laidTabs.filter (fun x => x.1 == "math/bits.deBruijn64tab") = [("math/bits.deBruijn64tab", Lib.tabData .u8 tab64)] := by kernel_rfl
theorem tab_at (k : Nat) (hk : k < 8) : jj k < tab64.length ∧ tab64.getD (jj k) 0 = (k : Int) := by revert k; decide +kernel
/-- What the rows' list gives. -/
theorem tabIn_of {W : World} (h : laidMetH Tryd.prog laidTabs W) : TabIn W := by
  have h1 := h.filter (fun x => x.1 == "math/bits.deBruijn64tab")
  rw [laid_second] at h1
  have h2 : Lib.TabIs Tryd.prog W "math/bits.deBruijn64tab" .u8 tab64 := Lib.tabIs_of_head (rest := []) g64 g64Type Tryd.underlying142 Tryd.underlying5 cells5 cells64 h1
  have h3 : ∀ k, k < 8 → W.cell? ⟨1, jj k, none⟩ = some (.int .u8 (k : Int)) := by
    intro k hk
    have := h2.cell g64 (jj k) (tab_at k hk).1
    rw [(tab_at k hk).2] at this
    exact this
  exact ⟨World.block_lt_of_cell? W _ (h3 0 (by omega)), h3⟩

/-- A world for the witnesses. -/
def layCells (cs : Array Value) : Obj → Obj
  | .cells _ t frozen => .cells cs t frozen
  | o => o
noncomputable def laidWorld (os : Os) : World :=
  { World.holding Tryd.prog os ⟨#[], #[], []⟩ with heap := ((World.holding Tryd.prog os ⟨#[], #[], []⟩).heap.modify 0 (layCells (tab32.map fun z => Value.int .u8 z).toArray)).modify 1 (layCells (tab64.map fun z => Value.int .u8 z).toArray) }
def w00 : Value := .agg #[.slice none 0 0, .int .i64 0, .int .i64 0, .int .i64 0, .slice none 0 0]
theorem laid_met (os : Os) (args : Array Value) (h : args = #[w00, .int .i64 0, .int .i64 0]) : laidMet Tryd.prog laidTabs ((laidWorld os).forCall (fun _ _ => 0) ⟨#[], args, []⟩).memory := by
  subst h
  exact laidMet_of_run' 8 (by kernel_rfl) (by kernel_rfl)

/-! ### far water -/
theorem valid_far (As Am : Option Addr) (cs cm : Nat) (W : Water) (w : World) (hf : farB W = true) :
    Calls Tryd.prog 12 #[wvW As Am cs cm W] w fun e w' => e = .returned (.bool false) ∧ Ext w w' := by
  have HF := Lib.hid hf
  clear hf
  go_enter Tryd.func12, Tryd.ntmps12
  go_wp2_with fail
  go_at_call 27
  refine (far_any _ _ _ _ W _).mono ?_
  rintro e w1 ⟨rfl, hb1⟩
  rw [HF.out]
  go_wp2_with fail
  go_ret
  exact ⟨rfl, by (repeat (first | (with_reducible exact Ext.refl _) | (with_reducible assumption) | (with_reducible refine Ext.alloc ?_ _) | (with_reducible refine Ext.trans ?_ (by with_reducible assumption)) | (with_reducible refine Ext.drew ?_) | (with_reducible refine Ext.setCell ?_ (by simp <;> omega) _)))⟩
theorem near_in {W : Water} {w : World} {As Am : Option Addr} (hf : farB W = false) (h1 : SlOf sprC 3 w w.heap.size As W.springs) (h2 : SlOf samC 2 w w.heap.size Am W.samples) : WaterIn w As Am W := by
  simp only [farB, Bool.or_eq_false_iff, Bool.and_eq_false_iff, decide_eq_false_iff_not] at hf
  exact ⟨h1, h2, by omega, by omega⟩
end Go.Proofs.YtabcmnfofekeeaaDoor
