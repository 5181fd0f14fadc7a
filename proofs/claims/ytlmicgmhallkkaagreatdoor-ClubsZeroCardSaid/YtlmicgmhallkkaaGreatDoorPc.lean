/- Texts Dp12, Dp13, Dp14, Dp15, Dp16 in one. -/
import Derived.Test.YtlmicgmhallkkaaGreatDoorPb
/- Beds, plain: the reference's queue, and what requests need. -/
set_option linter.constructorNameAsVariable false
set_option linter.unusedSimpArgs false
set_option linter.unusedVariables false
set_option linter.unusedSectionVars false
namespace Go.Proofs.YtlmicgmhallkkaaGreatDoor
open Go Go.Proofs Go.RowKit
set_option maxHeartbeats 1000000
theorem qAc{l:List Msg}(M:Msgs l){x y:Msg}(hx:x∈qfW l)(hy:y∈qfW l)(h:x.2.1=y.2.1):x=y:=by
 have h1:=qjO.1 hx
 have h2:=qjO.1 hy
 have k1:=M.kd x h1.1
 have k2:=M.kd y h2.1
 have e1:x.1=1:=by rcases k1 with k | k;exact k;exact absurd k h1.2.1
 have e2:y.1=1:=by rcases k2 with k | k;exact k;exact absurd k h2.2.1
 exact M.cl x y h1.1 h2.1 h (by rw[e1,e2])
theorem qAE{l:List Msg}(M:Msgs l):(qfW l).Pairwise (fun a b=>a≠b):=(qyX M).imp fun {a b} h e=>by subst e;omega
theorem quQ{c:Chn}{m:Msg}(h:mesB c m=true)(hk:m.1≠2):qiQ c.1.length c.2 (-1) m.2.2.2.2=true:=by
 unfold mesB canB reqB at h
 rw[show decide (m.1=2)=false from decide_eq_false hk] at h
 simp only[Bool.false_and,Bool.false_or,Bool.and_eq_true] at h
 exact h.2.2.2.2.2
def qsN(q:List Msg)(id:Int):List Msg:=q.takeWhile fun m=>!decide (m.2.1=id)
theorem qAd{l:List Msg}(M:Msgs l){m:Msg}(h:m∈qfW l):m.1=1:=by
 have h1:=qjO.1 h
 rcases M.kd m h1.1 with k | k
 ·exact k
 ·exact absurd k h1.2.1
end Go.Proofs.YtlmicgmhallkkaaGreatDoor
