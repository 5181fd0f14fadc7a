/- Texts Dl2, Dl4 in one. -/
import Derived.Test.YtfnflenkeljkiaaGreatLa
import Derived.Test.YtfnflenkeljkiaaGreatQc
import Derived.Test.YtfnflenkeljkiaaGreatQa
/- Ropes: the examples of the law package, in pieces. -/
set_option linter.constructorNameAsVariable false
set_option linter.unusedSimpArgs false
set_option linter.unusedVariables false
set_option linter.unusedSectionVars false
namespace Go.Proofs.YtfnflenkeljkiaaGreat
open Go Go.Proofs Go.RowKit
set_option maxHeartbeats 1000000
def exG:List (Int×(Int×Int)):=[(4,(500,6)),(3,(399,9)),(3,(400,4))]
def exMd:Int×(Int×(Int×(List (Int×Int)))):=(3650,(1825,(10,[(30,1),(100,4),(170,10)])))
def exR:Int×(Int×(Int×(List (Int×((Int×Int)×(Int×Int)))))):=(0,(100,(50,[(200,((20,30),(100,100))),(300,((40,60),(40,50)))])))
def exO:OutX:=((400,(3,(10,(exG,([3,2,4],(exMd,[exR,(300,(Int.negSucc 0,(20,[])))])))))),[0,1])
def exP:List (Int×(Int×Int)):=[(0,(0,2)),(4000,(1,3)),(6000,(5,9))]
theorem ex09(n:Nat):qgL n ()=some (exO.1,(exP,())):=by kernel_rfl
theorem qAI(n:Nat):qd1 (n+60) (exO.1,())=some (.inl (exO,((0:Int),()))):=by kernel_rfl
theorem qz9(n:Nat):qdI (tmO (n+60) exO)=[([0,0,2],[0,Int.negSucc 0,1]),([2,0,0],[0,Int.negSucc 0,1])]:=by kernel_rfl
theorem qAa(n:Nat):rgF (qht (n+60)) [([0,Int.negSucc 0,1],()),([0,Int.negSucc 0,1],())] (Int.negSucc 0,())=some (.inl ((2:Int),())):=by kernel_rfl
theorem qAJ(n:Nat)(hn:2000≤n):TmOk n exO:=qzI n hn exO (by decide) (by decide) (by decide) (by decide) (by decide)
theorem qvo(n:Nat)(x:OutX)(L:List (List Nat×List Int))(l:List ((List Int)×Unit))(k:Int)(h1:qd1 n (x.1,())=some (.inl (x,((0:Int),()))))(h2:qli n x=some L)(h3:(L.map fun e=>(e.2,()))=l)
  (h4:rgF (qht n) l (Int.negSucc 0,())=some (.inl (k,()))) (h5:0≤k):qg8 n (x.1,())=some (k,((0:Int),())):=by
 subst h3
 have ht:qpT n x=some (L.map fun e=>(e.2,())):=by unfold qpT;rw[h2];rfl
 rw[qqJ,h1]
 have hw:qfl n (x,())=some (x,()):=by rw[qiz]
 simp only[Option.bind_some,Sum.elim_inl,show iNe (0:Int) 0=false from rfl,cond_false,hw]
 rw[ht]
 show Option.bind (rgF (qht n) (L.map fun e=>(e.2,())) (Int.negSucc 0,())) _=_
 rw[h4]
 show cond (iLt k 0) _ _=_
 rw[show iLt k 0=false from decide_eq_false (by omega)]
 rfl
theorem qy8(n:Nat):qg8 (n+2000) (exO.1,())=some ((2:Int),((0:Int),())) :=
 qvo (n+2000) exO _ _ 2 (qAI (n+1940)) (qtA (qAJ _ (by omega))) (by rw[qz9 (n+1940)];rfl) (qAa (n+1940)) (by decide)
def qc(n lo hi:Int):Bool:=decide (lo≤n)&&decide (n≤hi)
def qW(a b lo hi:Int):Bool:=decide (lo≤a)&&decide (a≤b)&&decide (b≤hi)
structure Post where
 at_:Int
 lo:Int
 hi:Int
instance:Inhabited Post:=⟨⟨0,0,0⟩⟩
end Go.Proofs.YtfnflenkeljkiaaGreat
