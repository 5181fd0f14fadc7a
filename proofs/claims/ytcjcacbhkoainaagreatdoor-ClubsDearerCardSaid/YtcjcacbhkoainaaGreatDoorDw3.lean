/- Clubs: the examples of the law package. -/
import Derived.Test.YtcjcacbhkoainaaGreatDoorDw1
import Derived.Test.YtcjcacbhkoainaaGreatDoorDw2
set_option linter.constructorNameAsVariable false
set_option linter.unusedSimpArgs false
set_option linter.unusedVariables false
set_option linter.unusedSectionVars false
namespace Go.Proofs.YtcjcacbhkoainaaGreatDoor
open Go Go.Proofs Go.RowKit
theorem qD4(n:Nat)(u:Chn×(List Msg×(Int×(List Int×(List (List Int)×(List (Int×(Int×Int))×(List (Int×Int)×(List (Int×(Int×Int))×(Int×(Int×(Int×Int)))))))))))(l:List Int)(h1:qjg n ()=some (u,()))(h2:qkr n (u,())=some (l,(0,())))(h3:qkC n (u,(1,(3000,())))=some (3332,(0,())))
  (h4:qox n (((5:Int)::((Int.negSucc (4:Nat))::((3:Int)::((Int.negSucc (1:Nat))::((Int.negSucc (0:Nat))::[]))))),())=some (3,(0,()))) (h5:qiJ n (l,(((8480:Int)::((4403:Int)::((169:Int)::((900:Int)::((Int.negSucc (13951:Nat))::[]))))),()))=some (true,())):qbP n ()=some (true,()):=by
 rw[qqD,h1]
 simp only[Option.bind_some,h2,h3,h4,h5,qcv rfl,cond_true]
theorem qFd(n:Nat)(hn:60≤n):qbP n ()=some (true,()):=by
 obtain ⟨m,rfl⟩:∃m,n=m+60:=⟨n-60,by omega⟩
 exact qD4 (m+60) exW _ (ex11 _) (qGc m) (qFc m) (qGd m) (qFO m)
end Go.Proofs.YtcjcacbhkoainaaGreatDoor
