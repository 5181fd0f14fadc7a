/- Clubs: the examples of the law package, by computing: what is valid, what is accepted. -/
import Derived.Test.YtcjcacbhkoainaaGreatDoorQa
import Derived.Test.YtcjcacbhkoainaaGreatDoorPa
set_option linter.constructorNameAsVariable false
set_option linter.unusedSimpArgs false
set_option linter.unusedVariables false
set_option linter.unusedSectionVars false
namespace Go.Proofs.YtcjcacbhkoainaaGreatDoor
open Go Go.Proofs Go.RowKit
set_option maxHeartbeats 1000000
set_option maxRecDepth 100000
def exW:Chn×(List Msg×(Int×(List Int×(List (List Int)×(List (Int×(Int×Int))×(List (Int×Int)×(List (Int×(Int×Int))×(Int×(Int×(Int×Int)))))))))) :=
 (([(3,2),(2,0)],4),([(1,(5,(10,(2,[(0,(0,1)),(1,(2,2))])))),(1,(3,(20,(2,[(0,(1,2))])))),(1,(8,(20,(1,[(0,(1,1)),(1,(2,3))])))),(1,(9,(30,(1,[(0,(1,3))]))))],(3,([3000,2501],([[60,40,0],[0,33,67]],([(5,(1,1)),(9,(2,0))],([(2,0)],([(0,(1,2))],(40,(50,(150,1000)))))))))))
def exB:List Msg:=[(1,(5,(10,(2,[(0,(0,1)),(1,(2,2))])))),(1,(9,(30,(1,[(0,(1,3))]))))]
theorem ex11(n:Nat):qgz n ()=some (exW,()):=by kernel_rfl
theorem bc11(n:Nat):qo2 (n+60) (exW.1,(exW.2.1,()))=some (0,()):=by kernel_rfl
theorem ba11(n:Nat):qmq (n+60) (exW.1,(exW.2.1,()))=some ([5,9],(0,())):=by kernel_rfl
theorem ck11(n:Nat):qk1 (n+60) (exW,())=some (0,()):=by
 rw[qqq]
 simp only[bc11,Option.bind_some,qiy,cond_false]
 kernel_rfl
theorem qwt(n:Nat):qhB (n+60) (exW,())=some (.inl (0,(exW,(exB,())))):=by
 rw[qqr,ck11]
 simp only[ba11,Option.bind_some,qiy,cond_false]
 kernel_rfl
end Go.Proofs.YtcjcacbhkoainaaGreatDoor
