/- Texts Dl2, Dl4 in one. -/
import Derived.Test.YtbdockhccdkdiaaLa
import Derived.Test.YtbdockhccdkdiaaQc
import Derived.Test.YtbdockhccdkdiaaQa
/- Ropes: the examples of the law package, in pieces. -/
set_option linter.constructorNameAsVariable false
set_option linter.unusedSimpArgs false
set_option linter.unusedVariables false
set_option linter.unusedSectionVars false
namespace Go.Proofs.Ytbdockhccdkdiaa
open Go Go.Proofs Go.RowKit
set_option maxHeartbeats 1000000
def exG:List (Int×(Int×Int)):=[(4,(500,6)),(3,(399,9)),(3,(400,4))]
def exMd:Int×(Int×(Int×(List (Int×Int)))):=(3650,(1825,(10,[(30,1),(100,4),(170,10)])))
def exR:Int×(Int×(Int×(List (Int×((Int×Int)×(Int×Int)))))):=(0,(100,(50,[(200,((20,30),(100,100))),(300,((40,60),(40,50)))])))
def exO:OutX:=((400,(3,(10,(exG,([3,2,4],(exMd,[exR,(300,(Int.negSucc 0,(20,[])))])))))),[0,1])
def exP:List (Int×(Int×Int)):=[(0,(0,2)),(4000,(1,3)),(6000,(5,9))]
theorem ex09(n:Nat):qf9 n ()=some (exO.1,(exP,())):=by kernel_rfl
theorem qy8(n:Nat):qj9 (n+60) (exMd,(exR,((300:Int),())))=some ((1,5),((0:Int),())):=by kernel_rfl
theorem qyH(n:Nat):qly (n+60) (exP,((10:Int),((20:Int),())))=some ([0,1],((0:Int),())):=by kernel_rfl
theorem qyI(n:Nat):qdK (n+60) (exO.1,())=some (.inl (exO,((0:Int),()))):=by kernel_rfl
theorem qyd(n:Nat):qcl (tmO (n+60) exO)=[([0,0,2],[0,Int.negSucc 0,1]),([2,0,0],[0,Int.negSucc 0,1])]:=by kernel_rfl
theorem qyJ(n:Nat):qha n ((1:Int),((5:Int),()))=some ((1,5),()):=by kernel_rfl
theorem qyK(n:Nat):qfI (n+60) (([0,1]:List Int),(([0,1]:List Int),()))=some (true,()):=by kernel_rfl
theorem qye(n:Nat):rgF (qcC (n+60)) [([0,Int.negSucc 0,1],()),([0,Int.negSucc 0,1],())] (Int.negSucc 0,())=some (.inl ((2:Int),())):=by kernel_rfl
theorem qyL(n:Nat)(hn:2000≤n):TmOk n exO:=qxL n hn exO (by decide) (by decide) (by decide) (by decide) (by decide)
theorem qtO(n:Nat)(x:OutX)(L:List (List Nat×List Int))(l:List ((List Int)×Unit))(k:Int)(h1:qdK n (x.1,())=some (.inl (x,((0:Int),()))))(h2:qkv n x=some L)(h3:(L.map fun e=>(e.2,()))=l)
  (h4:rgF (qcC n) l (Int.negSucc 0,())=some (.inl (k,()))) (h5:0≤k):qeq n (x.1,())=some (k,((0:Int),())):=by
 subst h3
 have ht:qlx n x=some (L.map fun e=>(e.2,())):=by unfold qlx;rw[h2];rfl
 rw[qkQ,h1]
 have hw:qeQ n (x,())=some (x,()):=by rw[qfu]
 simp only[Option.bind_some,Sum.elim_inl,show iNe (0:Int) 0=false from rfl,cond_false,hw]
 rw[ht]
 show Option.bind (rgF (qcC n) (L.map fun e=>(e.2,())) (Int.negSucc 0,())) _=_
 rw[h4]
 show cond (iLt k 0) _ _=_
 rw[show iLt k 0=false from decide_eq_false (by omega)]
 rfl
theorem qxn(n:Nat):qeq (n+2000) (exO.1,())=some ((2:Int),((0:Int),())) :=
 qtO (n+2000) exO _ _ 2 (qyI (n+1940)) (qoZ (qyL _ (by omega))) (by rw[qyd (n+1940)];rfl) (qye (n+1940)) (by decide)
def qf(n lo hi:Int):Bool:=decide (lo≤n)&&decide (n≤hi)
def qdL(a b lo hi:Int):Bool:=decide (lo≤a)&&decide (a≤b)&&decide (b≤hi)
structure Post where
 at_:Int
 lo:Int
 hi:Int
instance:Inhabited Post:=⟨⟨0,0,0⟩⟩
end Go.Proofs.Ytbdockhccdkdiaa
