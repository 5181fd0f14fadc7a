/- Clubs, plain: the fee that is enough. -/
import Derived.Test.YtlmicgmhallkkaaGreatDoorDk8
import Derived.Test.YtlmicgmhallkkaaGreatDoorDk5
import Derived.Test.YtlmicgmhallkkaaGreatDoorPd
set_option linter.constructorNameAsVariable false
set_option linter.unusedSimpArgs false
set_option linter.unusedVariables false
set_option linter.unusedSectionVars false
namespace Go.Proofs.YtlmicgmhallkkaaGreatDoor
open Go Go.Proofs Go.RowKit
set_option maxHeartbeats 1000000
def qtt(u:Uni)(hut need:Int):Int×Int :=
 if chkU u≠0 then (0,chkU u) else
 if wi hut 0 ((u.1.1.length:Int)-1)=false then (0,1) else
 if wi need 0 1000000000=false then (0,1) else
 if okP u hut need (qcK u) 100000=false then (0,3) else
 (bsr (okP u hut need (qcK u)) 100000 0 100000,0)
theorem qA4(n:Nat)(u:Uni)(hs:Small11 u)(hut need:Int)(hn:200000≤n):qgF n (u,(hut,(need,())))=some ((qtt u hut need).1,((qtt u hut need).2,())):=by
 unfold qtt
 rw[qrA]
 by_cases hc:chkU u=0
 ·have K:=qw4 hs hc
  have B:=qEf hc
  have hbl:=qw0 u
  have hms:=K.ms
  have hhu:=K.v.hu
  have hfe:=K.fe
  rw[qwY n u hs K hc (by omega),if_neg (by rw[hc];decide)]
  simp only[Sum.elim_inl,Option.bind_some,qcg rfl,cond_true,qjR,qd1 rfl,cond_false,qbg (n:=iSub (u.1.1.length:Int) 1) (by unfold iSub;omega) (by unfold iSub;omega)]
  rw[show iSub (u.1.1.length:Int) 1=(u.1.1.length:Int)-1 from rfl]
  cases h1:wi hut 0 ((u.1.1.length:Int)-1) with
  | false=>simp only[Bool.not_false,cond_true,show iNe 1 0=true from rfl];rfl
  | true =>
   have hw:=qca.1 h1
   rw[if_neg (by decide)]
   cases h2:wi need 0 1000000000 with
   | false=>simp only[Bool.not_false,Bool.not_true,cond_true,cond_false,show iNe 1 0=true from rfl];rfl
   | true =>
    rw[if_neg (by decide)]
    have hb:∀m,m∈qcK u→m∈u.2.1∧m.1=1:=fun m hm=>by have:=qwZ K.v hm;exact ⟨this.2.1,this.2.2.1⟩
    have he:=qzs n (u,qcK u) K B hb (show (qcK u).length≤9 by omega) hut need 100000 (show 0≤hut∧hut<u.1.1.length by omega) (by omega) (by omega)
    have hl:=qEk n u (qcK u) K B hb (by omega) hut need (by omega) (by omega) 100000 0 100000 100000 n (by omega) (by omega) (by omega) (by omega) (by omega) (by omega)
    simp only[bkX] at he hl
    simp only[Bool.not_true,cond_false,qEo n u.2.2.2.1 (by omega),Option.bind_some,he]
    cases h3:okP u hut need (qcK u) 100000 with
    | false =>
     rw[show iGe (incV (setF u hut 100000) hut (qcK u)) need=false from h3]
     simp only[Bool.not_false,cond_true];rfl
    | true =>
     rw[show iGe (incV (setF u hut 100000) hut (qcK u)) need=true from h3]
     simp only[Bool.not_true,cond_false,hl,Option.bind_some];rfl
 ·rw[qEe n u hs hc (by omega),if_pos hc]
  simp only[Sum.elim_inr,Option.bind_some]
  first
  | rfl
  | (simp only[show iEq (chkU u) 0=false from decide_eq_false hc,qgS hc,cond_true,cond_false];done)
  | (simp only[show iEq (chkU u) 0=false from decide_eq_false hc,qgS hc,cond_true,cond_false];rfl)
end Go.Proofs.YtlmicgmhallkkaaGreatDoor
