/- The package tables that the rows lay, and a world that has them. -/
import Derived.Test.YtcjcacbhkoainaaGreatDoorDr1
import Derived.Lib.LaidTab
import Derived.LaidSub
set_option linter.constructorNameAsVariable false
set_option linter.unusedSimpArgs false
set_option linter.unusedVariables false
set_option linter.unusedSectionVars false
namespace Go.Proofs.YtcjcacbhkoainaaGreatDoor
open Go Go.Proofs Go.RowKit Go.Shelf
set_option maxRecDepth 20000
theorem g64:Tryz.prog.globalNamed "math/bits.deBruijn64tab" = some 1 := by kernel_rfl
theorem qJo:(Tryz.prog.globals[1]?).map (·.type)=some 156 := by kernel_rfl
theorem qJp:Tryz.prog.cellsOf 156 = 64:=by kernel_rfl
theorem qKh:Tryz.prog.cellsOf 5 = 1:=by kernel_rfl
def tab64:List Int:=[0,1,56,2,57,49,28,3,61,58,42,50,38,29,17,4,62,47,59,36,45,43,51,22,53,39,33,30,24,18,12,5,63,55,48,27,60,41,37,16,46,35,44,21,52,32,23,11,54,26,40,15,34,20,31,10,25,14,19,9,13,8,7,6]
def tab32:List Int:=[0,1,28,2,29,14,24,3,30,22,20,15,25,17,4,8,31,27,13,23,21,19,16,7,26,12,18,6,11,5,10,9]
def laidTabs:List (String×DataW Unit):=[("math/bits.deBruijn32tab",Rows.laid_math_bits_deBruijn32tab),("math/bits.deBruijn64tab",Rows.laid_math_bits_deBruijn64tab)]
theorem qCB:laidTabs.filter (fun x=>x.1 == "math/bits.deBruijn64tab")=[("math/bits.deBruijn64tab",Lib.tabData .u8 tab64)]:=by kernel_rfl
theorem glOf{W:World}(h:laidMetH Tryz.prog laidTabs W):Gl W:=by
 have h1:=h.filter (fun x=>x.1 == "math/bits.deBruijn64tab")
 rw[qCB] at h1
 have h2:Lib.TabIs Tryz.prog W "math/bits.deBruijn64tab" .u8 tab64:=Lib.tabIs_of_head (rest:=[]) g64 qJo Tryz.underlying156 Tryz.underlying5 qKh qJp h1
 have h3:∀(j k:Nat),j<tab64.length→tab64.getD j 0=(k:Int)→W.cell? ⟨1,j,none⟩=some (.int .u8 (k:Int)):=fun j k hj hk=>by
  have:=h2.cell g64 j hj
  rw[hk] at this
  exact this
 intro p hp
 simp only[gTab,List.mem_cons,List.not_mem_nil,or_false] at hp
 rcases hp with rfl | rfl | rfl | rfl | rfl | rfl | rfl | rfl
 ·exact h3 0 0 (by decide) (by decide)
 ·exact h3 1 1 (by decide) (by decide)
 ·exact h3 3 2 (by decide) (by decide)
 ·exact h3 7 3 (by decide) (by decide)
 ·exact h3 15 4 (by decide) (by decide)
 ·exact h3 31 5 (by decide) (by decide)
 ·exact h3 63 6 (by decide) (by decide)
 ·exact h3 62 7 (by decide) (by decide)
def qCe(cs:Array Value):Obj→Obj
 | .cells _ t frozen=>.cells cs t frozen
 | o=>o
noncomputable def qwp(os:Os):World :=
 {World.holding Tryz.prog os ⟨#[],#[],[]⟩ with heap:=((World.holding Tryz.prog os ⟨#[],#[],[]⟩).heap.modify 0 (qCe (tab32.map fun z=>Value.int .u8 z).toArray)).modify 1 (qCe (tab64.map fun z=>Value.int .u8 z).toArray)}
end Go.Proofs.YtcjcacbhkoainaaGreatDoor
