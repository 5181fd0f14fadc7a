/- Texts Dl5, Dl6, Dl7 in one. -/
import Derived.Test.YtbdockhccdkdiaaGreatDl3
import Derived.Test.YtbdockhccdkdiaaGreatLb
/- Ropes: what posts are valid: the program and the reference alike. -/
set_option linter.constructorNameAsVariable false
set_option linter.unusedSimpArgs false
set_option linter.unusedVariables false
set_option linter.unusedSectionVars false
namespace Go.Proofs.YtbdockhccdkdiaaGreat
open Go Go.Proofs Go.RowKit
set_option maxHeartbeats 1000000
abbrev qrC:=Int×(Int×Int)
def pO(t:qrC):Post:=⟨t.1,t.2.1,t.2.2⟩
theorem qsD(n:Nat)(x lo hi:Int):qh6 n (x,(lo,(hi,())))=some (qdD x lo hi,()):=by
 rw[qmA]
 unfold qdD
 show cond (decide (lo≤x)) _ _=_
 cases decide (lo≤x)<;>rfl
theorem qrD(n:Nat)(s:Int×Int)(lo hi:Int):qhA n (s,(lo,(hi,())))=some (qh9 s.1 s.2 lo hi,()):=by
 rw[ql3]
 unfold qh9
 show cond (decide (lo≤s.1)) (cond (decide (s.1≤s.2)) _ _) _=_
 cases decide (lo≤s.1)<;>cases decide (s.1≤s.2)<;>rfl
theorem qrE(n:Nat)(x lo hi:Int):qfk n (x,(lo,(hi,())))=some (qdD x lo hi,()):=by
 rw[qjg]
 unfold qdD
 show cond (decide (x≥lo)) _ _=_
 by_cases h:lo≤x<;>simp[h]
theorem qtS(n:Nat)(s:Int×Int)(lo hi:Int):qfl n (s,(lo,(hi,())))=some (qh9 s.1 s.2 lo hi,()):=by
 rw[qjh]
 unfold qh9
 show cond (decide (s.1≥lo)) (cond (decide (s.1≤s.2)) _ _) _=_
 by_cases h:lo≤s.1<;>by_cases h2:s.1≤s.2<;>simp[h,h2]
def PBd(l:List qrC):Prop:=∀t,t∈l→(0≤t.1∧t.1≤100000)∧(0≤t.2.1∧t.2.1≤100)∧(0≤t.2.2∧t.2.2≤100)
theorem bleM(a b:Nat)(h:a≤b):qD (Nat.ble a b)=some ():=by
 rw[Nat.ble_eq_true_of_le h];rfl
end Go.Proofs.YtbdockhccdkdiaaGreat
