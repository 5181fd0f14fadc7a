/- Texts Dl2, Dl4 in one. -/
import Derived.Test.YtbdockhccdkdiaaLa
import Derived.Test.YtbdockhccdkdiaaQc
import Derived.Test.YtbdockhccdkdiaaQa
/- Ropes: the examples of the law package, in pieces. -/
set_option linter.constructorNameAsVariable false
set_option linter.unusedSimpArgs false
set_option linter.unusedVariables false
set_option linter.unusedSectionVars false
namespace Go.Proofs.Ytbdockhccdkdiaa
open Go Go.Proofs Go.RowKit
set_option maxHeartbeats 1000000
def exG:List (Int×(Int×Int)):=[(4,(500,6)),(3,(399,9)),(3,(400,4))]
def exMd:Int×(Int×(Int×(List (Int×Int)))):=(3650,(1825,(10,[(30,1),(100,4),(170,10)])))
def exR:Int×(Int×(Int×(List (Int×((Int×Int)×(Int×Int)))))):=(0,(100,(50,[(200,((20,30),(100,100))),(300,((40,60),(40,50)))])))
def exO:OutX:=((400,(3,(10,(exG,([3,2,4],(exMd,[exR,(300,(Int.negSucc 0,(20,[])))])))))),[0,1])
def exP:List (Int×(Int×Int)):=[(0,(0,2)),(4000,(1,3)),(6000,(5,9))]
theorem ex09(n:Nat):qgc n ()=some (exO.1,(exP,())):=by kernel_rfl
theorem qzc(n:Nat):qj9 (n+60) (exMd,(exR,((300:Int),())))=some ((1,5),((0:Int),())):=by kernel_rfl
theorem qyL(n:Nat):qlw (n+60) (exP,((10:Int),((20:Int),())))=some ([0,1],((0:Int),())):=by kernel_rfl
theorem qyM(n:Nat):qdO (n+60) (exO.1,())=some (.inl (exO,((0:Int),()))):=by kernel_rfl
theorem qyj(n:Nat):qcn (tmO (n+60) exO)=[([0,0,2],[0,Int.negSucc 0,1]),([2,0,0],[0,Int.negSucc 0,1])]:=by kernel_rfl
theorem qyN(n:Nat):qhc n ((1:Int),((5:Int),()))=some ((1,5),()):=by kernel_rfl
theorem qyO(n:Nat):qfN (n+60) (([0,1]:List Int),(([0,1]:List Int),()))=some (true,()):=by kernel_rfl
theorem qyk(n:Nat):rgF (qcH (n+60)) [([0,Int.negSucc 0,1],()),([0,Int.negSucc 0,1],())] (Int.negSucc 0,())=some (.inl ((2:Int),())):=by kernel_rfl
theorem qyP(n:Nat)(hn:2000≤n):TmOk n exO:=qxR n hn exO (by decide) (by decide) (by decide) (by decide) (by decide)
theorem qtV(n:Nat)(x:OutX)(L:List (List Nat×List Int))(l:List ((List Int)×Unit))(k:Int)(h1:qdO n (x.1,())=some (.inl (x,((0:Int),()))))(h2:qku n x=some L)(h3:(L.map fun e=>(e.2,()))=l)
  (h4:rgF (qcH n) l (Int.negSucc 0,())=some (.inl (k,()))) (h5:0≤k):qev n (x.1,())=some (k,((0:Int),())):=by
 subst h3
 have ht:qlv n x=some (L.map fun e=>(e.2,())):=by unfold qlv;rw[h2];rfl
 rw[qkO,h1]
 have hw:qeW n (x,())=some (x,()):=by rw[qfA]
 simp only[Option.bind_some,Sum.elim_inl,show iNe (0:Int) 0=false from rfl,cond_false,hw]
 rw[ht]
 show Option.bind (rgF (qcH n) (L.map fun e=>(e.2,())) (Int.negSucc 0,())) _=_
 rw[h4]
 show cond (iLt k 0) _ _=_
 rw[show iLt k 0=false from decide_eq_false (by omega)]
 rfl
theorem qxq(n:Nat):qev (n+2000) (exO.1,())=some ((2:Int),((0:Int),())) :=
 qtV (n+2000) exO _ _ 2 (qyM (n+1940)) (qo0 (qyP _ (by omega))) (by rw[qyj (n+1940)];rfl) (qyk (n+1940)) (by decide)
def qf(n lo hi:Int):Bool:=decide (lo≤n)&&decide (n≤hi)
def qdP(a b lo hi:Int):Bool:=decide (lo≤a)&&decide (a≤b)&&decide (b≤hi)
structure Post where
 at_:Int
 lo:Int
 hi:Int
instance:Inhabited Post:=⟨⟨0,0,0⟩⟩
end Go.Proofs.Ytbdockhccdkdiaa
