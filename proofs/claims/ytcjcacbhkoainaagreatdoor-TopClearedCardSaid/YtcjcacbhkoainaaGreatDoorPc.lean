/- Texts Dp12, Dp13, Dp14, Dp15, Dp16 in one. -/
import Derived.Test.YtcjcacbhkoainaaGreatDoorPb
/- Beds, plain: the reference's queue, and what requests need. -/
set_option linter.constructorNameAsVariable false
set_option linter.unusedSimpArgs false
set_option linter.unusedVariables false
set_option linter.unusedSectionVars false
namespace Go.Proofs.YtcjcacbhkoainaaGreatDoor
open Go Go.Proofs Go.RowKit
set_option maxHeartbeats 1000000
theorem qqJ{c:Chn}{m:Msg}(h:mesB c m=true)(hk:m.1≠2):qhX c.1.length c.2 (-1) m.2.2.2.2=true:=by
 unfold mesB canB reqB at h
 rw[show decide (m.1=2)=false from decide_eq_false hk] at h
 simp only[Bool.false_and,Bool.false_or,Bool.and_eq_true] at h
 exact h.2.2.2.2.2
def qt6(q:List Msg)(id:Int):List Msg:=q.takeWhile fun m=>!decide (m.2.1=id)
theorem qBS{l:List Msg}(M:Msgs l){m:Msg}(h:m∈qkk l):m.1=1:=by
 have h1:=qtl.1 h
 rcases M.kd m h1.1 with k | k
 ·exact k
 ·exact absurd k h1.2.1
end Go.Proofs.YtcjcacbhkoainaaGreatDoor
