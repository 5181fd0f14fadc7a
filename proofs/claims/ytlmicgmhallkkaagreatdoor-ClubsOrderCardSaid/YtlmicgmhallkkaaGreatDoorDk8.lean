/- Clubs, plain: the reference's stays, bookings and fees. -/
import Derived.Test.YtlmicgmhallkkaaGreatDoorDk7
import Derived.Test.YtlmicgmhallkkaaGreatDoorDk2
import Derived.Test.YtlmicgmhallkkaaGreatDoorPd
set_option linter.constructorNameAsVariable false
set_option linter.unusedSimpArgs false
set_option linter.unusedVariables false
set_option linter.unusedSectionVars false
namespace Go.Proofs.YtlmicgmhallkkaaGreatDoor
open Go Go.Proofs Go.RowKit
set_option maxHeartbeats 1000000
theorem qBq(n:Nat)(a:Int)(l:List Int):qi0 n ((a::l:List Int),())=Option.bind (qI (Nat.ble (nAdd (0:Nat) (List.length (a::l))) 17592186044416)) fun _=>(some ((List.append [] (a::l)),())):=by kernel_rfl
theorem qEm(n:Nat):qcJ n ([],())=some ([],()):=by kernel_rfl
theorem qEn(n:Nat)(a:Int)(l:List Int):qcJ n (a::l,())=qi0 n ((a::l:List Int),()):=by kernel_rfl
theorem qEo(n:Nat)(l:List Int)(hl:l.length≤1000):qcJ n (l,())=some (l,()):=by
 cases l with
 | nil=>exact qEm n
 | cons a l =>
  rw[qEn]
  refine (qBq n a l).trans ?_
  rw[qbe (by rw[Nat.ble_eq];exact Nat.le_trans (Nat.le_of_eq (Nat.zero_add _)) (Nat.le_trans hl (by decide)))]
  rfl
theorem qHb{u:Uni}(V:Vld u.1 u.2.1){m:Msg}(h:m∈(offL u.1 u.2.1).1):m∈u.2.1∧m.1=1∧m∈qh7 u.2.1:=by
 have hq:=qpO.2 (qAQ.1 (.inl h))
 exact ⟨(qoO.1 hq).1,qwV V.msgs hq,hq⟩
end Go.Proofs.YtlmicgmhallkkaaGreatDoor
