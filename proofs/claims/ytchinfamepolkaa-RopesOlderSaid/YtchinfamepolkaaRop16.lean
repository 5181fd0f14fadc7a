/- Ropes: leads, the comparison of counts, Repeat. -/
import Derived.Test.YtchinfamepolkaaRop15
namespace Go.Proofs.Ytchinfamepolkaa
set_option linter.unusedSimpArgs false
set_option linter.unusedVariables false
set_option linter.unusedSectionVars false
open Go Go.Proofs Go.RowKit Go.Shelf
set_option maxHeartbeats 1000000
set_option maxRecDepth 20000

def leadsB (O : Outing) (k : Nat) : Bool := (O.guides[k]?).any fun G => decide (O.grade ≤ G.grade) && decide (O.day ≤ G.until_)
theorem leadsB_is (O : Outing) (k : Nat) (h : k < O.guides.length) : leadsB O k = (decide (O.grade ≤ O.guides[k].grade) && decide (O.day ≤ O.guides[k].until_)) := by unfold leadsB; rw [List.getElem?_eq_getElem h]; rfl
def cntN (l : List Int) (k : Nat) : Int := (l[k]?).getD 0
theorem cntN_is (l : List Int) (k : Nat) (h : k < l.length) : cntN l k = l[k] := by unfold cntN; rw [List.getElem?_eq_getElem h]; rfl
end Go.Proofs.Ytchinfamepolkaa
