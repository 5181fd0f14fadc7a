/- Texts Dl5, Dl6, Dl7 in one. -/
import Derived.Test.YtbdockhccdkdiaaDl3
import Derived.Test.YtbdockhccdkdiaaLb
/- Ropes: what posts are valid: the program and the reference alike. -/
set_option linter.constructorNameAsVariable false
set_option linter.unusedSimpArgs false
set_option linter.unusedVariables false
set_option linter.unusedSectionVars false
namespace Go.Proofs.Ytbdockhccdkdiaa
open Go Go.Proofs Go.RowKit
set_option maxHeartbeats 1000000
theorem qgD(n:Nat)(x lo hi:Int):qA n (x,(lo,(hi,())))=some (qf x lo hi,()):=by
 rw[qpC]
 unfold qf
 show cond (decide (lo≤x)) _ _=_
 cases decide (lo≤x)<;>rfl
theorem qu6(n:Nat)(s:Int×Int)(lo hi:Int):qhi n (s,(lo,(hi,())))=some (qdP s.1 s.2 lo hi,()):=by
 rw[qo2]
 unfold qdP
 show cond (decide (lo≤s.1)) (cond (decide (s.1≤s.2)) _ _) _=_
 cases decide (lo≤s.1)<;>cases decide (s.1≤s.2)<;>rfl
theorem qfg(n:Nat)(x lo hi:Int):qh n (x,(lo,(hi,())))=some (qf x lo hi,()):=by
 rw[qlx]
 unfold qf
 show cond (decide (x≥lo)) _ _=_
 by_cases h:lo≤x<;>simp[h]
theorem qxr(n:Nat)(s:Int×Int)(lo hi:Int):qc6 n (s,(lo,(hi,())))=some (qdP s.1 s.2 lo hi,()):=by
 rw[qly]
 unfold qdP
 show cond (decide (s.1≥lo)) (cond (decide (s.1≤s.2)) _ _) _=_
 by_cases h:lo≤s.1<;>by_cases h2:s.1≤s.2<;>simp[h,h2]
end Go.Proofs.Ytbdockhccdkdiaa
