/- Ropes: what posts are valid: the program and the reference alike. -/
import Derived.Test.YtfnflenkeljkiaaGreatLb
set_option linter.constructorNameAsVariable false
set_option linter.unusedSimpArgs false
set_option linter.unusedVariables false
set_option linter.unusedSectionVars false
namespace Go.Proofs.YtfnflenkeljkiaaGreat
open Go Go.Proofs Go.RowKit
set_option maxHeartbeats 1000000
theorem qiA(n:Nat)(x lo hi:Int):qR n (x,(lo,(hi,())))=some (qc x lo hi,()):=by
 rw[qqH]
 unfold qc
 show cond (decide (lo≤x)) _ _=_
 cases decide (lo≤x)<;>rfl
theorem qwz(n:Nat)(s:Int×Int)(lo hi:Int):qh6 n (s,(lo,(hi,())))=some (qW s.1 s.2 lo hi,()):=by
 rw[qpV]
 unfold qW
 show cond (decide (lo≤s.1)) (cond (decide (s.1≤s.2)) _ _) _=_
 cases decide (lo≤s.1)<;>cases decide (s.1≤s.2)<;>rfl
theorem qfJ(n:Nat)(x lo hi:Int):qh n (x,(lo,(hi,())))=some (qc x lo hi,()):=by
 rw[qmm]
 unfold qc
 show cond (decide (x≥lo)) _ _=_
 by_cases h:lo≤x<;>simp[h]
theorem qy9(n:Nat)(s:Int×Int)(lo hi:Int):qde n (s,(lo,(hi,())))=some (qW s.1 s.2 lo hi,()):=by
 rw[qmn]
 unfold qW
 show cond (decide (s.1≥lo)) (cond (decide (s.1≤s.2)) _ _) _=_
 by_cases h:lo≤s.1<;>by_cases h2:s.1≤s.2<;>simp[h,h2]
end Go.Proofs.YtfnflenkeljkiaaGreat
