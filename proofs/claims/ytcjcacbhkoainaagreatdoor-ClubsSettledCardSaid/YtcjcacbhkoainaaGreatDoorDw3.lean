/- Clubs: the examples of the law package. -/
import Derived.Test.YtcjcacbhkoainaaGreatDoorDw1
import Derived.Test.YtcjcacbhkoainaaGreatDoorDw2
set_option linter.constructorNameAsVariable false
set_option linter.unusedSimpArgs false
set_option linter.unusedVariables false
set_option linter.unusedSectionVars false
namespace Go.Proofs.YtcjcacbhkoainaaGreatDoor
open Go Go.Proofs Go.RowKit
theorem qxF(n:Nat)(u:Chn×(List Msg×(Int×(List Int×(List (List Int)×(List (Int×(Int×Int))×(List (Int×Int)×(List (Int×(Int×Int))×(Int×(Int×(Int×Int)))))))))))(l:List Int)(h1:qgz n ()=some (u,()))(h2:qhv n (u,())=some (l,(0,())))(h3:qhC n (u,(1,(3000,())))=some (3332,(0,())))
  (h4:qej n (((5:Int)::((Int.negSucc (4:Nat))::((3:Int)::((Int.negSucc (1:Nat))::((Int.negSucc (0:Nat))::[]))))),())=some (3,(0,()))) (h5:qgb n (l,(((8480:Int)::((4403:Int)::((169:Int)::((900:Int)::((Int.negSucc (13951:Nat))::[]))))),()))=some (true,())):qN n ()=some (true,()):=by
 rw[ql5,h1]
 simp only[Option.bind_some,h2,h3,h4,h5,qpv rfl,cond_true]
theorem quB(n:Nat)(hn:60≤n):qN n ()=some (true,()):=by
 obtain ⟨m,rfl⟩:∃m,n=m+60:=⟨n-60,by omega⟩
 exact qxF (m+60) exW _ (ex11 _) (qzF m) (qyC m) (qzG m) (qy7 m)
end Go.Proofs.YtcjcacbhkoainaaGreatDoor
