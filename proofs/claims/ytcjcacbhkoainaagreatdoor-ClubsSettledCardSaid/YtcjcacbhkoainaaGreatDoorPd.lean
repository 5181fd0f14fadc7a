/- Texts Dp17, Dp18, Dc0, Dc1, Dc2, Dc3 in one. -/
import Derived.Test.YtcjcacbhkoainaaGreatDoorPc
import Derived.Test.YtcjcacbhkoainaaGreatDoorQa
/- Beds, plain: Check of whatever there is. -/
set_option linter.constructorNameAsVariable false
set_option linter.unusedSimpArgs false
set_option linter.unusedVariables false
set_option linter.unusedSectionVars false
namespace Go.Proofs.YtcjcacbhkoainaaGreatDoor
open Go Go.Proofs Go.RowKit
set_option maxHeartbeats 1000000
structure Near (c:Chn) (l:List Msg):Prop where
 st:∀m,m∈l→m.2.2.2.2.length≤20
 hu:c.1.length≤20
 ln:l.length≤9∨(40<l.length∧l.length≤60)
structure RefOk (c:Chn) (m:Msg):Prop where
 ok:MsgOk c m
 st:qtA c.1.length c.2 (-1) m.2.2.2.2=true
 ln:m.2.2.2.2.length≤20
abbrev qzD:=Int×(Int×Int)
abbrev qzE:=Int×Int
abbrev Work:=Int×(Int×Int)
abbrev Uni:=Chn×(List Msg×(Int×(List Int×(List (List Int)×(List qzD×(List qzE×(List Work×(Int×(Int×(Int×Int))))))))))
theorem qpY(n:Nat)(a lo hi:Int):qcG n (a,(lo,(hi,())))=some (wi a lo hi,()):=by
 rw[qlT]
 show cond (iGe a lo) (some ((iLe a hi),())) (some (false,()))=_
 unfold wi iGe iLe
 by_cases h:a≥lo
 ·rw[decide_eq_true h];rfl
 ·rw[decide_eq_false h];rfl
structure Small11 (u:Uni):Prop where
 hu:u.1.1.length≤20
 ln:u.2.1.length≤9∨(40<u.2.1.length∧u.2.1.length≤60)
 st:∀m,m∈u.2.1→m.2.2.2.2.length≤20
 fe:u.2.2.2.1.length≤20
 sh:u.2.2.2.2.1.length≤20
 rl:∀r,r∈u.2.2.2.2.1→r.length≤20
 gu:u.2.2.2.2.2.1.length≤42
 ri:u.2.2.2.2.2.2.1.length≤14
 wo:u.2.2.2.2.2.2.2.1.length≤22
theorem qrm(n:Nat)(a lo hi:Int):qdD n (a,(lo,(hi,())))=some (wi a lo hi,()):=by
 rw[qpI]
 show cond (iLe lo a) (some ((iLe a hi),())) (some (false,()))=_
 unfold wi iLe
 by_cases h:lo≤a
 ·rw[decide_eq_true h];rfl
 ·rw[decide_eq_false h];rfl
end Go.Proofs.YtcjcacbhkoainaaGreatDoor
