/- Clubs, plain: the fee that is enough. -/
import Derived.Test.YtlmicgmhallkkaaGreatDoorDk8
import Derived.Test.YtlmicgmhallkkaaGreatDoorDk5
import Derived.Test.YtlmicgmhallkkaaGreatDoorPd
set_option linter.constructorNameAsVariable false
set_option linter.unusedSimpArgs false
set_option linter.unusedVariables false
set_option linter.unusedSectionVars false
namespace Go.Proofs.YtlmicgmhallkkaaGreatDoor
open Go Go.Proofs Go.RowKit
set_option maxHeartbeats 1000000
theorem qBk(n:Nat)(u:Uni)(K:Okay u)(B:Bnd u)(hut need:Int)(hh:0≤hut∧hut<u.1.1.length)(hn:5000≤n):∀(m:Nat) (lo hi:Int) (n':Nat),0≤lo→lo≤hi→hi≤100000→hi-lo≤m→m<n' →
  qb n' (qjK n) (hut,(need,(lo,(hi,(u,())))))=some (bsr (okP u hut need (qb5 u)) m lo hi,()):=by
 intro m
 induction m with
 | zero =>
  intro lo hi n' h0 h1 h2 h3 hn'
  obtain ⟨n',rfl⟩:∃j,n'=j+1:=⟨n'-1,by omega⟩
  rw[qe,ql3]
  simp only[show iLt lo hi=false from decide_eq_false (by omega),cond_false]
  rw[show lo=hi by omega]
  rfl
 | succ m ih =>
  intro lo hi n' h0 h1 h2 h3 hn'
  obtain ⟨n',rfl⟩:∃j,n'=j+1:=⟨n'-1,by omega⟩
  rw[qe,ql3]
  by_cases hlt:lo<hi
  ·obtain ⟨e1,e2,e3⟩:=qEH h0 hlt h2
   simp only[show iLt lo hi=true from decide_eq_true hlt,cond_true,show qF (iNe (2:Int) (0:Int))=some () from rfl,Option.bind_some,e1,qv2 n u K B hut ((lo+hi)/2) hh (by omega) hn]
   unfold bsr
   rw[if_pos hlt]
   cases hp:iGe (incV (setF u hut ((lo+hi)/2)) hut (qb5 u)) need with
   | true =>
    rw[if_pos (show okP u hut need (qb5 u) ((lo+hi)/2)=true from hp)]
    simp only[cond_true]
    exact ih lo ((lo+hi)/2) n' h0 e2 (by omega) (by omega) (by omega)
   | false =>
    rw[if_neg (show ¬okP u hut need (qb5 u) ((lo+hi)/2)=true by rw[show okP u hut need (qb5 u) ((lo+hi)/2)=false from hp];decide)]
    simp only[cond_false]
    rw[show iW (iAdd ((lo+hi)/2) 1)=(lo+hi)/2+1 from qbd (by unfold iAdd;omega) (by unfold iAdd;omega)]
    exact ih ((lo+hi)/2+1) hi n' (by omega) (by omega) (by omega) (by omega) (by omega)
  ·simp only[show iLt lo hi=false from decide_eq_false hlt,cond_false]
   unfold bsr
   rw[if_neg hlt,show lo=hi by omega]
def qr7(u:Uni)(hut need:Int):Int×Int :=
 if chkU u≠0 then (0,chkU u) else
 if wi hut 0 ((u.1.1.length:Int)-1)=false then (0,1) else
 if wi need 0 1000000000=false then (0,1) else
 if okP u hut need (qb5 u) 100000=false then (0,3) else
 (bsr (okP u hut need (qb5 u)) 100000 0 100000,0)
theorem qBl(n:Nat)(u:Uni)(hs:Small11 u)(hut need:Int)(hn:200000≤n):qgb n (u,(hut,(need,())))=some ((qr7 u hut need).1,((qr7 u hut need).2,())):=by
 unfold qr7
 rw[qrY]
 by_cases hc:chkU u=0
 ·have K:=qxq hs hc
  have B:=qBg hc
  have hbl:=qGg u
  have hms:=K.ms
  have hhu:=K.v.hu
  have hfe:=K.fe
  rw[qGf n u hs K hc (by omega),if_neg (by rw[hc];decide)]
  simp only[Sum.elim_inl,Option.bind_some,qbP rfl,cond_true,qjt,qd2 rfl,cond_false,qbd (n:=iSub (u.1.1.length:Int) 1) (by unfold iSub;omega) (by unfold iSub;omega)]
  rw[show iSub (u.1.1.length:Int) 1=(u.1.1.length:Int)-1 from rfl]
  cases h1:wi hut 0 ((u.1.1.length:Int)-1) with
  | false=>simp only[Bool.not_false,cond_true,show iNe 1 0=true from rfl];rfl
  | true =>
   have hw:=qbj.1 h1
   rw[if_neg (by decide)]
   cases h2:wi need 0 1000000000 with
   | false=>simp only[Bool.not_false,Bool.not_true,cond_true,cond_false,show iNe 1 0=true from rfl];rfl
   | true =>
    rw[if_neg (by decide)]
    have hb:∀m,m∈qb5 u→m∈u.2.1∧m.1=1:=fun m hm=>by have:=qBf K.v hm;exact ⟨this.2.1,this.2.2.1⟩
    have he:=qzO n (u,qb5 u) K B hb (show (qb5 u).length≤9 by omega) hut need 100000 (show 0≤hut∧hut<u.1.1.length by omega) (by omega) (by omega)
    have hl:=qEI n u (qb5 u) K B hb (by omega) hut need (by omega) (by omega) 100000 0 100000 100000 n (by omega) (by omega) (by omega) (by omega) (by omega) (by omega)
    simp only[bkX] at he hl
    simp only[Bool.not_true,cond_false,qEL n u.2.2.2.1 (by omega),Option.bind_some,he]
    cases h3:okP u hut need (qb5 u) 100000 with
    | false =>
     rw[show iGe (incV (setF u hut 100000) hut (qb5 u)) need=false from h3]
     simp only[Bool.not_false,cond_true];rfl
    | true =>
     rw[show iGe (incV (setF u hut 100000) hut (qb5 u)) need=true from h3]
     simp only[Bool.not_true,cond_false,hl,Option.bind_some];rfl
 ·rw[qEE n u hs hc (by omega),if_pos hc]
  simp only[Sum.elim_inr,Option.bind_some]
  first
  | rfl
  | (simp only[show iEq (chkU u) 0=false from decide_eq_false hc,qgo hc,cond_true,cond_false];done)
  | (simp only[show iEq (chkU u) 0=false from decide_eq_false hc,qgo hc,cond_true,cond_false];rfl)
theorem qBL(n:Nat)(u:Uni)(hs:Small11 u)(hut need:Int)(hn:200000≤n):qk6 n (u,(hut,(need,())))=some ((qr7 u hut need).1,((qr7 u hut need).2,())):=by
 unfold qr7
 rw[qsn,quT n u hs (by omega)]
 by_cases hc:chkU u=0
 ·have K:=qxq hs hc
  have B:=qBg hc
  have hhu:=K.v.hu
  have hfe:=K.fe
  rw[if_neg (by rw[hc];decide)]
  simp only[Option.bind_some,qd2 hc,cond_false,qgS,hfe,qbd (n:=iSub (u.1.1.length:Int) 1) (by unfold iSub;omega) (by unfold iSub;omega)]
  rw[show iSub (u.1.1.length:Int) 1=(u.1.1.length:Int)-1 from rfl]
  cases h1:wi hut 0 ((u.1.1.length:Int)-1) with
  | false=>simp only[Bool.not_false,cond_true];rfl
  | true =>
   have hw:=qbj.1 h1
   rw[if_neg (by decide)]
   cases h2:wi need 0 1000000000 with
   | false=>simp only[Bool.not_false,Bool.not_true,cond_true,cond_false];rfl
   | true =>
    rw[if_neg (by decide)]
    simp only[Bool.not_true,cond_false,qv2 n u K B hut 100000 (by omega) (by omega) (by omega),Option.bind_some]
    have hl:=qBk n u K B hut need (by omega) (by omega) 100000 0 100000 n (by omega) (by omega) (by omega) (by omega) (by omega)
    cases h3:okP u hut need (qb5 u) 100000 with
    | false =>
     have:incV (setF u hut 100000) hut (qb5 u)<need:=by unfold okP iGe at h3;simpa using h3
     rw[show iLt (incV (setF u hut 100000) hut (qb5 u)) need=true from decide_eq_true this]
     rfl
    | true =>
     have:need≤incV (setF u hut 100000) hut (qb5 u):=by unfold okP iGe at h3;simpa using h3
     rw[show iLt (incV (setF u hut 100000) hut (qb5 u)) need=false from decide_eq_false (by omega)]
     simp only[cond_false,hl,Option.bind_some];rfl
 ·rw[if_pos hc]
  simp only[Option.bind_some,qgo hc,cond_true]
theorem qEQ(n:Nat)(u:Uni)(hut need:Int)(hl:u.2.1.length≤9223372036854775807)(hl2:u.2.2.2.2.1.length≤9223372036854775807)(hn:u.2.1.length+u.2.2.2.2.1.length+200000≤n):qfj n (u,(hut,(need,())))=some (true,()):=by
 have hw:=qCp n (by omega)
 rw[qpi,qBh n u hl hl2 (by omega) (by omega)]
 simp only[Option.bind_some,hw]
 cases hf:qqy u with
 | true=>rfl
 | false =>
  have hs:=qr6 hf
  simp only[cond_false,qGj n u hs (by omega),Option.bind_some,qBl n u hs hut need (by omega),qBL n u hs hut need (by omega),qbP rfl,cond_true]
end Go.Proofs.YtlmicgmhallkkaaGreatDoor
