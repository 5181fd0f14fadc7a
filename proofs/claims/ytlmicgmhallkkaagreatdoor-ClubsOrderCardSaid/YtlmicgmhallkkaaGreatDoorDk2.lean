/- Clubs, plain: the reference splits alike. -/
import Derived.Test.YtlmicgmhallkkaaGreatDoorDk1
set_option linter.constructorNameAsVariable false
set_option linter.unusedSimpArgs false
set_option linter.unusedVariables false
set_option linter.unusedSectionVars false
namespace Go.Proofs.YtlmicgmhallkkaaGreatDoor
open Go Go.Proofs Go.RowKit
set_option maxHeartbeats 1000000
theorem qEl(n:Nat)(l:List Int)(hl:l.length<1000000)(hn:l.length<n):qdW n (l,(l,()))=some (true,()):=by
 rw[qqw]
 have h:=qkP (step:=qf2 n) l (fun k=>(l,(l,((k:Int),())))) (fun _=>false) (.inr (false,())) (.inl ()) (fun rec k hk=>by
  rw[qkF]
  simp only[qu hk,cond_true,qA l hk,Option.bind_some,qd1 rfl,cond_false,qj (show k<9223372036854775807 by omega)]) (fun rec=>by
  rw[qkF]
  simp only[qw,cond_false]) (n:=n) hn
 have h':qb n (qf2 n) (l,(l,((0:Int),())))=_:=h
 simp only[qd1 rfl,cond_false,h',Option.bind_some]
 rw[show (l.any fun _=>false)=false by simp]
 rfl
end Go.Proofs.YtlmicgmhallkkaaGreatDoor
