/- Names for the steps of numbers, for the equations of models. Nothing here speaks of the program. -/
import Derived.Test.YtklkodbibffohaaGreatNd
set_option linter.constructorNameAsVariable false
set_option linter.unusedSimpArgs false
set_option linter.unusedVariables false
set_option linter.unusedSectionVars false
namespace Go.Proofs.YtklkodbibffohaaGreat
open Go Go.Proofs Go.RowKit
abbrev Stay:=Int×(Int×Int)
abbrev Msg:=Int×(Int×(Int×(Int×(List Stay))))
abbrev Chn:=(List (Int×Int))×Int
abbrev iLt(a b:Int):Bool:=decide (a<b)
abbrev iLe(a b:Int):Bool:=decide (a≤b)
abbrev iGt(a b:Int):Bool:=decide (a>b)
abbrev iGe(a b:Int):Bool:=decide (a≥b)
abbrev iAdd(a b:Int):Int:=a+b
abbrev iSub(a b:Int):Int:=a-b
abbrev iMul(a b:Int):Int:=a*b
abbrev iEq(a b:Int):Bool:=a==b
abbrev iNe(a b:Int):Bool:=a != b
abbrev iMin(a b:Int):Int:=if b<a then b else a
abbrev iMk(n:Int):Bool:=decide (0≤n)&&decide (n≤10000)
abbrev nAdd(a b:Nat):Nat:=a+b
abbrev iW(n:Int):Int:=IntKind.i64.wrap n
end Go.Proofs.YtklkodbibffohaaGreat
