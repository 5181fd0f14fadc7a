/- Ropes: the law package's examples hold. -/
import Derived.Test.YtbdockhccdkdiaaLb
import Derived.Test.YtbdockhccdkdiaaDqZ
set_option linter.constructorNameAsVariable false
set_option linter.unusedSimpArgs false
set_option linter.unusedVariables false
set_option linter.unusedSectionVars false
namespace Go.Proofs.Ytbdockhccdkdiaa
open Go Go.Proofs Go.RowKit
set_option maxHeartbeats 1000000
theorem qu5(n:Nat)(o:OutX)(p:List (Int×(Int×Int)))(r:Int×(Int×(Int×(List (Int×((Int×Int)×(Int×Int)))))))(d:Int×Int)(l:List Int)(h1:qgc n ()=some (o.1,(p,())))(h2:lat o.1.2.2.2.2.2.2 0=some r)
  (h3:qj9 n (o.1.2.2.2.2.2.1,(r,((300:Int),())))=some (d,((0:Int),()))) (h4:qlw n (p,((10:Int),((20:Int),())))=some (l,((0:Int),()))) (h5:qev n (o.1,())=some ((2:Int),((0:Int),())))
  (h6:qhc n ((1:Int),((5:Int),()))=some (d,())) (h7:Ty.eqB (Ty.pr (Ty.i .i64) (Ty.i .i64)) d d=true) (h8:qfN n (l,(((0:Int)::((1:Int)::[])),()))=some (true,())):qu n ()=some (true,()):=by
 rw[qlQ,h1]
 simp only[Option.bind_some,h2,h3,h4,h5,h6,h7,h8,show iEq (0:Int) 0=true from rfl,show iEq (2:Int) 2=true from rfl,cond_true]
theorem qyl(n:Nat)(hn:3000≤n):qu n ()=some (true,()):=by
 obtain ⟨m,rfl⟩:∃m,n=m+2000:=⟨n-2000,by omega⟩
 exact qu5 (m+2000) exO exP exR (1,5) [0,1] (ex09 _) rfl (qzc (m+1940)) (qyL (m+1940)) (qxq m) (qyN _) (by decide) (qyO (m+1940))
end Go.Proofs.Ytbdockhccdkdiaa
