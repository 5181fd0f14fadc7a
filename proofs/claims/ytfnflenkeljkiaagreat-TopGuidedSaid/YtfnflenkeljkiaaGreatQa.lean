/- Texts Dq0, Dp0 in one. -/
import Derived.Test.YtfnflenkeljkiaaGreatNd
/- Names for the steps of numbers, for the equations of models. Nothing here speaks of the program. -/
set_option linter.constructorNameAsVariable false
set_option linter.unusedSimpArgs false
set_option linter.unusedVariables false
set_option linter.unusedSectionVars false
namespace Go.Proofs.YtfnflenkeljkiaaGreat
open Go Go.Proofs Go.RowKit
abbrev Stay:=Int×(Int×Int)
abbrev iLt(a b:Int):Bool:=decide (a<b)
abbrev iLe(a b:Int):Bool:=decide (a≤b)
abbrev iGt(a b:Int):Bool:=decide (a>b)
abbrev iGe(a b:Int):Bool:=decide (a≥b)
abbrev iAdd(a b:Int):Int:=a+b
abbrev iSub(a b:Int):Int:=a-b
abbrev iMul(a b:Int):Int:=a*b
abbrev iEq(a b:Int):Bool:=a==b
abbrev iNe(a b:Int):Bool:=a != b
abbrev iMin(a b:Int):Int:=if b<a then b else a
abbrev iMax(a b:Int):Int:=if b>a then b else a
abbrev nAdd(a b:Nat):Nat:=a+b
abbrev iW(n:Int):Int:=IntKind.i64.wrap n
theorem qfF{n:Int}(h:-9223372036854775808≤n)(h':n≤9223372036854775807):iW n=n:=qzv h h'
theorem qQ{k:Nat}(h:k<9223372036854775807):iW (iAdd (k:Int) 1)=((k+1:Nat):Int):=by
 rw[qfF (by unfold iAdd;omega) (by unfold iAdd;omega)];unfold iAdd;omega
theorem qnR{α:Type}(l:List α)(k:Nat):lat l (k:Int)=l[k]?:=by unfold lat;simp
theorem qr{α:Type}(l:List α){k:Nat}(h:k<l.length):lat l (k:Int)=some l[k]:=by rw[qnR,List.getElem?_eq_getElem h]
theorem qU{σ ξ:Type}(n:Nat)(step:(σ→Option ξ)→σ→Option ξ)(s:σ):qg (n+1) step s=step (qg n step) s:=rfl
end Go.Proofs.YtfnflenkeljkiaaGreat
