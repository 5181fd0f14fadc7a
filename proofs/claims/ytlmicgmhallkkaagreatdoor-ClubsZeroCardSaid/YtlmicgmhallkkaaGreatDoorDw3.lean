/- Clubs: the examples of the law package. -/
import Derived.Test.YtlmicgmhallkkaaGreatDoorDw1
import Derived.Test.YtlmicgmhallkkaaGreatDoorDw2
set_option linter.constructorNameAsVariable false
set_option linter.unusedSimpArgs false
set_option linter.unusedVariables false
set_option linter.unusedSectionVars false
namespace Go.Proofs.YtlmicgmhallkkaaGreatDoor
open Go Go.Proofs Go.RowKit
theorem qE7(n:Nat)(u:Chn×(List Msg×(Int×(List Int×(List (List Int)×(List (Int×(Int×Int))×(List (Int×Int)×(List (Int×(Int×Int))×(Int×(Int×(Int×Int)))))))))))(l:List Int)(h1:qjN n ()=some (u,()))(h2:qfK n (u,())=some (l,(0,())))(h3:qk6 n (u,(1,(3000,())))=some (3332,(0,())))
  (h4:qo7 n (((5:Int)::((Int.negSucc (4:Nat))::((3:Int)::((Int.negSucc (1:Nat))::((Int.negSucc (0:Nat))::[]))))),())=some (3,(0,()))) (h5:qjg n (l,(((8480:Int)::((4403:Int)::((169:Int)::((900:Int)::((Int.negSucc (13951:Nat))::[]))))),()))=some (true,())):qgn n ()=some (true,()):=by
 rw[qrf,h1]
 simp only[Option.bind_some,h2,h3,h4,h5,qbT rfl,cond_true]
theorem qGk(n:Nat)(hn:60≤n):qgn n ()=some (true,()):=by
 obtain ⟨m,rfl⟩:∃m,n=m+60:=⟨n-60,by omega⟩
 exact qE7 (m+60) exW _ (ex11 _) (qHt m) (qGj m) (qHu m) (qG0 m)
end Go.Proofs.YtlmicgmhallkkaaGreatDoor
