/- Clubs: the examples of the law package. -/
import Derived.Test.YtlmicgmhallkkaaGreatDoorDw1
import Derived.Test.YtlmicgmhallkkaaGreatDoorDw2
set_option linter.constructorNameAsVariable false
set_option linter.unusedSimpArgs false
set_option linter.unusedVariables false
set_option linter.unusedSectionVars false
namespace Go.Proofs.YtlmicgmhallkkaaGreatDoor
open Go Go.Proofs Go.RowKit
theorem qGl(n:Nat)(u:Chn×(List Msg×(Int×(List Int×(List (List Int)×(List (Int×(Int×Int))×(List (Int×Int)×(List (Int×(Int×Int))×(Int×(Int×(Int×Int)))))))))))(l:List Int)(h1:qjE n ()=some (u,()))(h2:qk3 n (u,())=some (l,(0,())))(h3:qgb n (u,(1,(3000,())))=some (3332,(0,())))
  (h4:qpZ n (((5:Int)::((Int.negSucc (4:Nat))::((3:Int)::((Int.negSucc (1:Nat))::((Int.negSucc (0:Nat))::[]))))),())=some (3,(0,()))) (h5:qi4 n (l,(((8480:Int)::((4403:Int)::((169:Int)::((900:Int)::((Int.negSucc (13951:Nat))::[]))))),()))=some (true,())):qT n ()=some (true,()):=by
 rw[qso,h1]
 simp only[Option.bind_some,h2,h3,h4,h5,qbP rfl,cond_true]
theorem qCp(n:Nat)(hn:60≤n):qT n ()=some (true,()):=by
 obtain ⟨m,rfl⟩:∃m,n=m+60:=⟨n-60,by omega⟩
 exact qGl (m+60) exW _ (ex11 _) (qIu m) (qHt m) (qIv m) (qH6 m)
end Go.Proofs.YtlmicgmhallkkaaGreatDoor
