/- Clubs: the examples of the law package. -/
import Derived.Test.YtlmicgmhallkkaaGreatDoorDw1
import Derived.Test.YtlmicgmhallkkaaGreatDoorDw2
set_option linter.constructorNameAsVariable false
set_option linter.unusedSimpArgs false
set_option linter.unusedVariables false
set_option linter.unusedSectionVars false
namespace Go.Proofs.YtlmicgmhallkkaaGreatDoor
open Go Go.Proofs Go.RowKit
theorem qH1(n:Nat)(u:Chn×(List Msg×(Int×(List Int×(List (List Int)×(List (Int×(Int×Int))×(List (Int×Int)×(List (Int×(Int×Int))×(Int×(Int×(Int×Int)))))))))))(l:List Int)(h1:qki n ()=some (u,()))(h2:qfK n (u,())=some (l,(0,())))(h3:ql0 n (u,(1,(3000,())))=some (3332,(0,())))
  (h4:qq2 n (((5:Int)::((Int.negSucc (4:Nat))::((3:Int)::((Int.negSucc (1:Nat))::((Int.negSucc (0:Nat))::[]))))),())=some (3,(0,()))) (h5:qdR n (l,(((8480:Int)::((4403:Int)::((169:Int)::((900:Int)::((Int.negSucc (13951:Nat))::[]))))),()))=some (true,())):qgt n ()=some (true,()):=by
 rw[qtu,h1]
 simp only[Option.bind_some,h2,h3,h4,h5,qbn rfl,cond_true]
theorem qJb(n:Nat)(hn:60≤n):qgt n ()=some (true,()):=by
 obtain ⟨m,rfl⟩:∃m,n=m+60:=⟨n-60,by omega⟩
 exact qH1 (m+60) exW _ (ex11 _) (qKj m) (qJa m) (qKk m) (qJS m)
end Go.Proofs.YtlmicgmhallkkaaGreatDoor
