/- Clubs: the cleared accounts: the law. -/
import Derived.Test.YtcjcacbhkoainaaGreatDoorDk16
set_option linter.constructorNameAsVariable false
set_option linter.unusedSimpArgs false
set_option linter.unusedVariables false
set_option linter.unusedSectionVars false
namespace Go.Proofs.YtcjcacbhkoainaaGreatDoor
open Go Go.Proofs Go.RowKit
set_option maxHeartbeats 1000000
theorem qEl(n:Nat)(u:Uni)(hl:u.2.1.length≤9223372036854775807)(hl2:u.2.2.2.2.1.length≤9223372036854775807)(hn:u.2.1.length+u.2.2.2.2.1.length+9000≤n):qhi n (u,())=some (true,()):=by
 have hp:=qIZ n (by omega)
 rw[qq3,qth]
 simp only[qHD n u hl hl2 (by omega) (by omega),Option.bind_some,hp]
 cases hf:qwf u with
 | true=>rfl
 | false =>
  have hs:=qB1 hf
  simp only[Bool.not_false,cond_true,qAD n u hs (by omega),Option.bind_some]
  by_cases hk:chkU u=0
  ·rw[qb4 hk]
   simp only[Bool.not_true,cond_false]
   have hc:=(qB6 hs hk).cl
   obtain ⟨acc,h1,h2,h3⟩:=qCd n u hs hk (by omega)
   obtain ⟨us,r,h4,S⟩:=qF8 n acc (by omega) h3
   have hr:=S.r1 h3
   have hln:=S.ln
   have hnz:=qB7 acc
   have he:iW (iAdd u.2.2.1 2)=(acc.length:Int):=by rw[h2];exact qM (n:=iAdd u.2.2.1 2) (by unfold iAdd;omega) (by unfold iAdd;omega)
   have hlt:us.length<acc.length:=by
    by_cases h0:0<qla acc
    ·have:=hr.2 h0;omega
    ·omega
   simp only[h1,Option.bind_some,show iNe (0:Int) 0=false from rfl,cond_false,he,qev rfl,qF3 n acc (by omega),h3,Bool.not_true,h4,qF9 n acc h4,qb4 rfl,cond_true,qv hlt,S.settles (n:=n) h3 (by omega)]
  ·rw[show iEq (chkU u) 0=false by simp[iEq,hk]]
   rfl
end Go.Proofs.YtcjcacbhkoainaaGreatDoor
