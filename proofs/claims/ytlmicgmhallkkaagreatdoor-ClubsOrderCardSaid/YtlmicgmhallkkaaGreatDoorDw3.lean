/- Clubs: the examples of the law package. -/
import Derived.Test.YtlmicgmhallkkaaGreatDoorDw1
import Derived.Test.YtlmicgmhallkkaaGreatDoorDw2
set_option linter.constructorNameAsVariable false
set_option linter.unusedSimpArgs false
set_option linter.unusedVariables false
set_option linter.unusedSectionVars false
namespace Go.Proofs.YtlmicgmhallkkaaGreatDoor
open Go Go.Proofs Go.RowKit
theorem qFS(n:Nat)(u:Chn×(List Msg×(Int×(List Int×(List (List Int)×(List (Int×(Int×Int))×(List (Int×Int)×(List (Int×(Int×Int))×(Int×(Int×(Int×Int)))))))))))(l:List Int)(h1:qj1 n ()=some (u,()))(h2:qfQ n (u,())=some (l,(0,())))(h3:qgF n (u,(1,(3000,())))=some (3332,(0,())))
  (h4:qpF n (((5:Int)::((Int.negSucc (4:Nat))::((3:Int)::((Int.negSucc (1:Nat))::((Int.negSucc (0:Nat))::[]))))),())=some (3,(0,()))) (h5:qdW n (l,(((8480:Int)::((4403:Int)::((169:Int)::((900:Int)::((Int.negSucc (13951:Nat))::[]))))),()))=some (true,())):qbu n ()=some (true,()):=by
 rw[qrS,h1]
 simp only[Option.bind_some,h2,h3,h4,h5,qcg rfl,cond_true]
theorem qG9(n:Nat)(hn:60≤n):qbu n ()=some (true,()):=by
 obtain ⟨m,rfl⟩:∃m,n=m+60:=⟨n-60,by omega⟩
 exact qFS (m+60) exW _ (ex11 _) (qIg m) (qG8 m) (qIh m) (qHO m)
end Go.Proofs.YtlmicgmhallkkaaGreatDoor
