/- Clubs: the accounts of a valid union are balances that can be settled. -/
import Derived.Test.YtcjcacbhkoainaaGreatDoorDk15
import Derived.Test.YtcjcacbhkoainaaGreatDoorVc
set_option linter.constructorNameAsVariable false
set_option linter.unusedSimpArgs false
set_option linter.unusedVariables false
set_option linter.unusedSectionVars false
namespace Go.Proofs.YtcjcacbhkoainaaGreatDoor
open Go Go.Proofs Go.RowKit
set_option maxHeartbeats 1000000
def nts(s:Stay):Int:=s.2.2-s.2.1+1
theorem qyZ{nh nn:Int}:∀{ss:List Stay} {last:Int},qhX nh nn last ss=true→last≤nn-1→(ss.map nts).sum≤nn-1-last
 | [],last,_,h=>by show (0:Int)≤_;omega
 | s::ss,last,h,hl=>by
  unfold qhX at h
  simp only[Bool.and_eq_true,decide_eq_true_eq] at h
  obtain ⟨⟨_,h1,h2,h3⟩,h4⟩:=h
  have:=qyZ h4 (by omega)
  rw[List.map_cons,List.sum_cons]
  unfold nts at this ⊢
  omega
theorem qKg{en:Bool}{me f:Int}(hm:0≤me∧me≤100)(hf:0≤f∧f≤100000):0≤prV en me f∧prV en me f≤100000:=by
 unfold prV
 have h1:f*(100-me)≤f*100:=Int.mul_le_mul_of_nonneg_left (by omega) hf.1
 have h2:0≤f*(100-me):=Int.mul_nonneg hf.1 (by omega)
 cases en<;>simp only[cond_true,cond_false]<;>omega
theorem qJk{u:Uni}(K:Okay u)(b:Bnd u)(ht:0≤u.2.2.2.2.2.2.2.2.2.2.1∧u.2.2.2.2.2.2.2.2.2.2.1≤100000){m:Msg}(hm:m∈u.2.1)(h1:m.1=1){s:Stay}(hs:s∈m.2.2.2.2):0≤nts s∧nts s≤20∧0≤(qT u m s).1∧(qT u m s).1≤2000000*nts s∧0≤(qT u m s).2∧(qT u m s).2≤2000000*nts s:=by
 have hst:=qsd (qqJ (K.v.ms m hm) (by omega)) (Int.le_refl _) s hs
 have hin:=qrF K.v hm h1 hs
 have hfe:=qJ6 K b hin
 have hnn:u.1.2≤20:=by
  have:=K.v.ch
  unfold qdr at this
  simp only[Bool.and_eq_true,q7] at this
  exact this.2.2.2
 have hpe:1≤m.2.2.2.1∧m.2.2.2.1≤20:=by
  have:=K.v.ms m hm
  unfold mesB canB reqB at this
  rw[show decide (m.1=2)=false from decide_eq_false (by omega)] at this
  simp only[Bool.false_and,Bool.false_or,Bool.and_eq_true,q7] at this
  exact this.2.2.2.1
 have hg:0≤(payV u.2.2.2.2.2.1 m.2.1).2.2∧(payV u.2.2.2.2.2.1 m.2.1).2.2≤20:=by
  unfold payV
  cases hf:u.2.2.2.2.2.1.find? fun g=>iEq g.1 m.2.1 with
  | none=>exact ⟨Int.le_refl _,by show (0:Int)≤_;omega⟩
  | some g=>exact b.gk g (List.mem_of_find?_eq_some hf)
 obtain ⟨p1,p2,p3,p4⟩:=qHI K b hm h1 hs
 have e1:=p4 _ hfe.1 hfe.2
 rw[qFS] at e1
 refine ⟨by unfold nts;omega,by unfold nts;omega,?_⟩
 have hpr:=qKg (en:=entV u (payV u.2.2.2.2.2.1 m.2.1).2.1 s.1) b.me hfe
 rw[e1]
 unfold qEf
 generalize prV (entV u (payV u.2.2.2.2.2.1 m.2.1).2.1 s.1) u.2.2.2.2.2.2.2.2.1 ((u.2.2.2.1[s.1.toNat]?).getD 0)=pr at *
 have htx:(qT u m s).2=nts s*(m.2.2.2.1-iMin (payV u.2.2.2.2.2.1 m.2.1).2.2 m.2.2.2.1)*u.2.2.2.2.2.2.2.2.2.2.1:=by
  unfold qT
  simp only
  generalize (payV u.2.2.2.2.2.1 m.2.1).2.2=g at *
  have hk:0≤iMin g m.2.2.2.1∧iMin g m.2.2.2.1≤20∧iMin g m.2.2.2.1≤m.2.2.2.1:=by
   unfold iMin;split<;>omega
  generalize iMin g m.2.2.2.1=kd at *
  have hnts:iW (iAdd (iW (iSub s.2.2 s.2.1)) 1)=s.2.2-s.2.1+1:=by
   rw[show iW (iSub s.2.2 s.2.1)=s.2.2-s.2.1 from qM (by unfold iSub;omega) (by unfold iSub;omega)]
   exact qM (by unfold iAdd;omega) (by unfold iAdd;omega)
  have hbig:iW (iSub m.2.2.2.1 kd)=m.2.2.2.1-kd:=qM (by unfold iSub;omega) (by unfold iSub;omega)
  rw[hnts,hbig]
  have p1:=qiY (a:=s.2.2-s.2.1+1) (b:=m.2.2.2.1-kd) (A:=20) (B:=20) (by omega) (by omega) (by omega) (by omega)
  rw[show iW (iMul (s.2.2-s.2.1+1) (m.2.2.2.1-kd))=(s.2.2-s.2.1+1)*(m.2.2.2.1-kd) from qM (by unfold iMul;omega) (by unfold iMul;omega)]
  have p2:=qiY (a:=(s.2.2-s.2.1+1)*(m.2.2.2.1-kd)) (b:=u.2.2.2.2.2.2.2.2.2.2.1) (A:=400) (B:=100000) p1.1 (by omega) ht.1 ht.2
  exact qM (by unfold iMul;omega) (by unfold iMul;omega)
 rw[htx]
 have hkd:iMin (payV u.2.2.2.2.2.1 m.2.1).2.2 m.2.2.2.1≤m.2.2.2.1:=by unfold iMin;split<;>omega
 generalize iMin (payV u.2.2.2.2.2.1 m.2.1).2.2 m.2.2.2.1=kd at *
 have hc1:pr*u.2.2.2.2.2.2.2.2.2.1≤pr*100:=Int.mul_le_mul_of_nonneg_left b.ch.2 hpr.1
 have hc0:0≤pr*u.2.2.2.2.2.2.2.2.2.1:=Int.mul_nonneg hpr.1 b.ch.1
 generalize pr*u.2.2.2.2.2.2.2.2.2.1=pc at *
 have a1:=qiY (a:=m.2.2.2.1-kd) (b:=pr) (A:=m.2.2.2.1-kd) (B:=100000) (by omega) (Int.le_refl _) hpr.1 hpr.2
 have a2:=qiY (a:=kd) (b:=(pc+99)/100) (A:=kd) (B:=100000) p3 (Int.le_refl _) (by omega) (by omega)
 generalize (m.2.2.2.1-kd)*pr=X at *
 generalize kd*((pc+99)/100)=Y at *
 have hXY:0≤X+Y∧X+Y≤2000000:=by omega
 have hn0:0≤nts s:=p1
 have a3:=qiY (a:=nts s) (b:=X+Y) (A:=nts s) (B:=2000000) hn0 (Int.le_refl _) hXY.1 hXY.2
 have hn20:nts s≤20:=by unfold nts;omega
 have a4:=qiY (a:=nts s) (b:=m.2.2.2.1-kd) (A:=nts s) (B:=20) hn0 (Int.le_refl _) (by omega) (by omega)
 have a5:=qiY (a:=nts s*(m.2.2.2.1-kd)) (b:=u.2.2.2.2.2.2.2.2.2.2.1) (A:=nts s*20) (B:=100000) a4.1 a4.2 ht.1 ht.2
 have e3:(s.2.2-s.2.1+1)*(X+Y)=nts s*(X+Y):=rfl
 rw[e3]
 refine ⟨a3.1,?_,a5.1,?_⟩
 ·have:=a3.2;omega
 ·have:=a5.2;omega
theorem qJl{l:List Int}(h:∀x,x∈l→0≤x):∀x,x∈l→x≤l.sum:=by
 induction l with
 | nil=>intro x hx;cases hx
 | cons y l ih =>
  intro x hx
  have h0:0≤l.sum:=by
   have:∀l:List Int,(∀x,x∈l→0≤x)→0≤l.sum:=by
    intro l
    induction l with
    | nil=>intro _;exact Int.le_refl _
    | cons z l ih2=>intro h;rw[List.sum_cons];have:=h z List.mem_cons_self;have:=ih2 fun x hx=>h x (List.mem_cons_of_mem _ hx);omega
   exact this l fun x hx=>h x (List.mem_cons_of_mem _ hx)
  rw[List.sum_cons]
  have hy:=h y List.mem_cons_self
  rcases List.mem_cons.1 hx with rfl | hx
  ·omega
  ·have:=ih (fun x hx=>h x (List.mem_cons_of_mem _ hx)) x hx
   omega
theorem qGa{u:Uni}(K:Okay u)(B:Bnd u){a h:Int}(ha:0≤a∧a≤1000000000000)(hh:0≤h∧h<u.1.1.length)(j:Nat):0≤shV u a h j∧shV u a h j≤a:=by
 obtain ⟨_,r1,r2,r3⟩:=qFR K B hh
 have hl:=qyT a (qnp u h)
 have hsum:=qEe ha r2 r3
 have hnn:∀x,x∈qgZ a (qnp u h)→0≤x:=fun x hx=>by
  obtain ⟨i,hi,rfl⟩:=List.mem_iff_getElem.1 hx
  exact (qI6 ha r2 r3 (by rw[hl] at hi;exact hi) hi).1
 unfold shV
 by_cases hj:j<(qgZ a (qnp u h)).length
 ·rw[List.getElem?_eq_getElem hj]
  have hm:=List.getElem_mem hj
  have:=qJl hnn _ hm
  exact ⟨hnn _ hm,by rw[hsum] at this;exact this⟩
 ·rw[List.getElem?_eq_none (by omega)]
  exact ⟨Int.le_refl _,ha.1⟩
theorem quU{α:Type}{f:α→Int}{c:α→Int}:∀{l:List α},(∀x,x∈l→-c x≤f x∧f x≤c x)→-(l.map c).sum≤(l.map f).sum∧(l.map f).sum≤(l.map c).sum
 | [],_=>⟨Int.le_refl _,Int.le_refl _⟩
 | x::l,h=>by
  have:=quU fun y hy=>h y (List.mem_cons_of_mem x hy)
  have:=h x List.mem_cons_self
  rw[List.map_cons,List.sum_cons,List.map_cons,List.sum_cons]
  omega
theorem qAs{α:Type}(c:Int):∀l:List α,(l.map fun _=>c).sum=c*l.length
 | []=>by simp
 | x::l=>by rw[List.map_cons,List.sum_cons,qAs c l,List.length_cons];rw[show ((l.length+1:Nat):Int)=(l.length:Int)+1 by omega,Int.mul_add];omega
theorem qCb{α:Type}(c:Int)(f:α→Int):∀l:List α,(l.map fun x=>c*f x).sum=c*(l.map f).sum
 | []=>by simp
 | x::l=>by rw[List.map_cons,List.sum_cons,qCb c f l,List.map_cons,List.sum_cons,Int.mul_add]
theorem qJm{u:Uni}(K:Okay u)(B:Bnd u)(ht:0≤u.2.2.2.2.2.2.2.2.2.2.1∧u.2.2.2.2.2.2.2.2.2.2.1≤100000){m:Msg}(hm:m∈u.2.1)(h1:m.1=1)(j:Nat):-80000000≤msgC u m j∧msgC u m j≤80000000:=by
 have hnn:u.1.2≤20:=by
  have:=K.v.ch
  unfold qdr at this
  simp only[Bool.and_eq_true,q7] at this
  exact this.2.2.2
 have hn1:1≤u.1.2:=by
  have:=K.v.ch
  unfold qdr at this
  simp only[Bool.and_eq_true,q7] at this
  exact this.2.2.1
 have hns:=qyZ (qqJ (K.v.ms m hm) (by omega)) (by omega)
 have:=quU (l:=m.2.2.2.2) (f:=fun s=>qwG u m s j) (c:=fun s=>4000000*nts s) fun s hs=>by
  obtain ⟨b1,b2,b3,b4,b5,b6⟩:=qJk K B ht hm h1 hs
  have hsh:=qGa K B (a:=(qT u m s).1) (h:=s.1) ⟨b3,by omega⟩ (qrF K.v hm h1 hs) j
  unfold qwG
  have c1:0≤(if (j:Int)=u.2.2.1 then (qT u m s).2 else 0)∧(if (j:Int)=u.2.2.1 then (qT u m s).2 else 0)≤(qT u m s).2:=by split<;>omega
  have c2:0≤(if (j:Int)=u.2.2.1+1 then (qT u m s).1+(qT u m s).2 else 0)∧(if (j:Int)=u.2.2.1+1 then (qT u m s).1+(qT u m s).2 else 0)≤(qT u m s).1+(qT u m s).2:=by split<;>omega
  omega
 rw[qCb] at this
 unfold msgC
 omega
theorem qHO{u:Uni}(K:Okay u)(B:Bnd u){w:Work}(hw:w∈u.2.2.2.2.2.2.2.1)(j:Nat):-2000000≤qs2 u w j∧qs2 u w j≤2000000:=by
 have h1:=B.wk w hw
 have h2:=K.wo w hw
 have p:=qiY (a:=w.2.2) (b:=u.2.2.2.2.2.2.2.2.2.2.2) (A:=20) (B:=100000) h1.1 h1.2 B.cr.1 B.cr.2
 have hsh:=qGa K B (a:=w.2.2*u.2.2.2.2.2.2.2.2.2.2.2) (h:=w.2.1) ⟨p.1,by omega⟩ (by omega) j
 unfold qs2
 have c1:0≤(if (j:Int)=w.1 then w.2.2*u.2.2.2.2.2.2.2.2.2.2.2 else 0)∧(if (j:Int)=w.1 then w.2.2*u.2.2.2.2.2.2.2.2.2.2.2 else 0)≤w.2.2*u.2.2.2.2.2.2.2.2.2.2.2:=by split<;>omega
 omega
theorem qJn{u:Uni}(K:Okay u)(B:Bnd u)(ht:0≤u.2.2.2.2.2.2.2.2.2.2.1∧u.2.2.2.2.2.2.2.2.2.2.1≤100000)(j:Nat):-1000000000≤accT u (qdd u) j∧accT u (qdd u) j≤1000000000:=by
 have a1:=quU (l:=qdd u) (f:=fun m=>msgC u m j) (c:=fun _=>80000000) fun m hm=>by
  have:=quP K.v hm
  exact qJm K B ht this.2.1 this.2.2.1 j
 have a2:=quU (l:=u.2.2.2.2.2.2.2.1) (f:=fun w=>qs2 u w j) (c:=fun _=>2000000) fun w hw=>qHO K B hw j
 rw[qAs] at a1 a2
 have hbl:=quQ u
 have hms:=K.ms
 have hwl:=K.wl
 unfold accT
 omega
theorem qGb{x y:Int}(hx:-9223372036854775808≤x∧x≤9223372036854775807)(hy:-1000000000≤y∧y≤1000000000)(h:(18446744073709551616:Int)∣x-y):x=y:=by omega
theorem qCc:∀{l:List Int},(∀x,x∈l→-1000000000≤x∧x≤1000000000)→-(1000000000*(l.length:Int))≤l.sum∧l.sum≤1000000000*(l.length:Int)
 | [],_=>by simp
 | x::l,h=>by
  have:=qCc fun y hy=>h y (List.mem_cons_of_mem x hy)
  have:=h x List.mem_cons_self
  rw[List.sum_cons,List.length_cons]
  omega
theorem qCd(n:Nat)(u:Uni)(hs:Small11 u)(h:chkU u=0)(hn:5000≤n):∃acc,qju n (u,())=some (acc,(0,()))∧(acc.length:Int)=u.2.2.1+2∧balB acc=true:=by
 have K:=qB6 hs h
 have B:=qBZ h
 have ht:=qJ5 h
 have hc:=K.cl
 obtain ⟨acc,h1,h2⟩:=qCz n u hs K h hn
 obtain ⟨acc',⟨h3,h4⟩,h5⟩:=qCx n u hs K h hn
 rw[h2] at h5
 injection h5 with h5
 have h6:acc=acc':=(Prod.mk.inj h5).1
 subst h6
 refine ⟨acc,h2,h3,?_⟩
 have hb:∀x,x∈acc→-1000000000≤x∧x≤1000000000:=fun x hx=>by
  obtain ⟨j,hj,rfl⟩:=List.mem_iff_getElem.1 hx
  obtain ⟨q1,q2⟩:=h1.2 j hj
  have:=qJn K B ht j
  rw[qGb q1 this q2]
  exact this
 have hsum:=qCc hb
 unfold balB
 simp only[Bool.and_eq_true,decide_eq_true_eq,List.all_eq_true,q7]
 refine ⟨by omega,hb,?_⟩
 omega
end Go.Proofs.YtcjcacbhkoainaaGreatDoor
