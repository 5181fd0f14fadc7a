/- Clubs, plain: the accounts, each of them. -/
import Derived.Test.YtcjcacbhkoainaaGreatDoorDk1
import Derived.Test.YtcjcacbhkoainaaGreatDoorPe
set_option linter.constructorNameAsVariable false
set_option linter.unusedSimpArgs false
set_option linter.unusedVariables false
set_option linter.unusedSectionVars false
namespace Go.Proofs.YtcjcacbhkoainaaGreatDoor
open Go Go.Proofs Go.RowKit
set_option maxHeartbeats 1000000
def AcI(L:Nat)(V:Nat→Int)(acc:List Int):Prop:=acc.length=L∧∀(j:Nat) (hj:j<acc.length),(-9223372036854775808≤acc[j]∧acc[j]≤9223372036854775807)∧(18446744073709551616:Int)∣acc[j]-V j
theorem AcI.put{L:Nat}{V:Nat→Int}{a:List Int}(h:AcI L V a){c:Nat}(hc:c<a.length){y z:Int}(hz:-9223372036854775808≤z∧z≤9223372036854775807)(hd:(18446744073709551616:Int)∣z-a[c]-y):AcI L (fun j=>V j+if j=c then y else 0) (a.set c z):=by
 refine ⟨by rw[List.length_set];exact h.1,fun j hj=>?_⟩
 have hj':j<a.length:=by rwa [List.length_set] at hj
 show _∧(18446744073709551616:Int)∣_-(V j+if j=c then y else 0)
 rw[List.getElem_set]
 by_cases e:c=j
 ·subst e
  rw[if_pos rfl,if_pos rfl]
  have:=h.2 c hc
  exact ⟨hz,by omega⟩
 ·rw[if_neg e,if_neg (fun h=>e h.symm),Int.add_zero]
  exact h.2 j hj'
end Go.Proofs.YtcjcacbhkoainaaGreatDoor
