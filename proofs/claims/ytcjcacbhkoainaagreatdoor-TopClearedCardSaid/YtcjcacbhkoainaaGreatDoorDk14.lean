/- Clubs, plain: with one more right no price becomes higher; with a greater fee none becomes lower. -/
import Derived.Test.YtcjcacbhkoainaaGreatDoorDk10
import Derived.Test.YtcjcacbhkoainaaGreatDoorDk13
set_option linter.constructorNameAsVariable false
set_option linter.unusedSimpArgs false
set_option linter.unusedVariables false
set_option linter.unusedSectionVars false
namespace Go.Proofs.YtcjcacbhkoainaaGreatDoor
open Go Go.Proofs Go.RowKit
set_option maxHeartbeats 1000000
def qEf(nts big kd:Int)(en:Bool)(me ch f:Int):Int:=nts*(big*prV en me f+kd*((prV en me f*ch+99)/100))
theorem qHI{u:Uni}(K:Okay u)(b:Bnd u){m:Msg}(hm:m∈u.2.1)(h1:m.1=1){s:Stay}(hs:s∈m.2.2.2.2):0≤s.2.2-s.2.1+1∧0≤m.2.2.2.1-iMin (payV u.2.2.2.2.2.1 m.2.1).2.2 m.2.2.2.1∧0≤iMin (payV u.2.2.2.2.2.1 m.2.1).2.2 m.2.2.2.1∧∀f,0≤f→f≤100000→(qT (setF u s.1 f) m s).1=qEf (s.2.2-s.2.1+1) (m.2.2.2.1-iMin (payV u.2.2.2.2.2.1 m.2.1).2.2 m.2.2.2.1) (iMin (payV u.2.2.2.2.2.1 m.2.1).2.2 m.2.2.2.1) (entV u (payV u.2.2.2.2.2.1 m.2.1).2.1 s.1) u.2.2.2.2.2.2.2.2.1 u.2.2.2.2.2.2.2.2.2.1 f:=by
 have hst:=qsd (qqJ (K.v.ms m hm) (by omega)) (Int.le_refl _) s hs
 have hin:=qrF K.v hm h1 hs
 have hnn:u.1.2≤20:=by
  have:=K.v.ch
  unfold qdr at this
  simp only[Bool.and_eq_true,q7] at this
  exact this.2.2.2
 have hpe:1≤m.2.2.2.1∧m.2.2.2.1≤20:=by
  have:=K.v.ms m hm
  unfold mesB canB reqB at this
  rw[show decide (m.1=2)=false from decide_eq_false (by omega)] at this
  simp only[Bool.false_and,Bool.false_or,Bool.and_eq_true,q7] at this
  exact this.2.2.2.1
 have hg:0≤(payV u.2.2.2.2.2.1 m.2.1).2.2∧(payV u.2.2.2.2.2.1 m.2.1).2.2≤20:=by
  unfold payV
  cases hf:u.2.2.2.2.2.1.find? fun g=>iEq g.1 m.2.1 with
  | none=>exact ⟨Int.le_refl _,by show (0:Int)≤_;omega⟩
  | some g=>exact b.gk g (List.mem_of_find?_eq_some hf)
 have hlen:s.1.toNat<u.2.2.2.1.length:=by rw[K.fe];omega
 refine ⟨by omega,by unfold iMin;split<;>omega,by unfold iMin;split<;>omega,?_⟩
 intro f hf0 hf1
 unfold qEf
 have hset:((u.2.2.2.1.set s.1.toNat f)[s.1.toNat]?).getD 0=f:=by rw[List.getElem?_set_self hlen];rfl
 unfold qT
 show iW (iMul _ (iW (iAdd (iW (iMul _ (cond (entV u (payV u.2.2.2.2.2.1 m.2.1).2.1 s.1) (upV ((u.2.2.2.1.set s.1.toNat f)[s.1.toNat]?.getD 0) (iW (iSub 100 u.2.2.2.2.2.2.2.2.1))) ((u.2.2.2.1.set s.1.toNat f)[s.1.toNat]?.getD 0)))) (iW (iMul _ (upV (cond (entV u (payV u.2.2.2.2.2.1 m.2.1).2.1 s.1) (upV ((u.2.2.2.1.set s.1.toNat f)[s.1.toNat]?.getD 0) (iW (iSub 100 u.2.2.2.2.2.2.2.2.1))) ((u.2.2.2.1.set s.1.toNat f)[s.1.toNat]?.getD 0)) u.2.2.2.2.2.2.2.2.2.1))))))=_
 rw[hset]
 generalize entV u (payV u.2.2.2.2.2.1 m.2.1).2.1 s.1=en
 show iW (iMul (iW (iAdd (iW (iSub s.2.2 s.2.1)) 1)) (iW (iAdd (iW (iMul (iW (iSub m.2.2.2.1 (iMin (payV u.2.2.2.2.2.1 m.2.1).2.2 m.2.2.2.1))) _)) (iW (iMul (iMin (payV u.2.2.2.2.2.1 m.2.1).2.2 m.2.2.2.1) _)))))=_
 generalize (payV u.2.2.2.2.2.1 m.2.1).2.2=g at *
 have hk:0≤iMin g m.2.2.2.1∧iMin g m.2.2.2.1≤20∧iMin g m.2.2.2.1≤m.2.2.2.1:=by
  unfold iMin;split<;>omega
 generalize iMin g m.2.2.2.1=kd at *
 have hnts:iW (iAdd (iW (iSub s.2.2 s.2.1)) 1)=s.2.2-s.2.1+1:=by
  rw[show iW (iSub s.2.2 s.2.1)=s.2.2-s.2.1 from qM (by unfold iSub;omega) (by unfold iSub;omega)]
  exact qM (by unfold iAdd;omega) (by unfold iAdd;omega)
 have hbig:iW (iSub m.2.2.2.1 kd)=m.2.2.2.1-kd:=qM (by unfold iSub;omega) (by unfold iSub;omega)
 have hme:=b.me
 have h100:iW (iSub 100 u.2.2.2.2.2.2.2.2.1)=100-u.2.2.2.2.2.2.2.2.1:=qM (by unfold iSub;omega) (by unfold iSub;omega)
 rw[hnts,hbig,h100]
 have hup:=qyR (x:=f) (p:=100-u.2.2.2.2.2.2.2.2.1) (by omega) (by omega)
 have hprv:cond en (upV f (100-u.2.2.2.2.2.2.2.2.1)) f=prV en u.2.2.2.2.2.2.2.2.1 f:=by
  unfold prV
  rw[hup.2.2]
 have hpr:0≤cond en (upV f (100-u.2.2.2.2.2.2.2.2.1)) f∧cond en (upV f (100-u.2.2.2.2.2.2.2.2.1)) f≤100001:=by
  cases en<;>simp only[cond_true,cond_false]<;>omega
 rw[hprv] at hpr ⊢
 generalize prV en u.2.2.2.2.2.2.2.2.1 f=pr at *
 have hch:=qyR (x:=pr) (p:=u.2.2.2.2.2.2.2.2.2.1) (by omega) b.ch
 rw[← hch.2.2]
 generalize upV pr u.2.2.2.2.2.2.2.2.2.1=up at *
 have p1:=qiY (a:=m.2.2.2.1-kd) (b:=pr) (A:=20) (B:=100001) (by omega) (by omega) hpr.1 hpr.2
 have p2:=qiY (a:=kd) (b:=up) (A:=20) (B:=100002) (by omega) (by omega) hch.1 (by omega)
 have e3:iW (iAdd (iW (iMul (m.2.2.2.1-kd) pr)) (iW (iMul kd up)))=(m.2.2.2.1-kd)*pr+kd*up:=by
  rw[show iW (iMul (m.2.2.2.1-kd) pr)=(m.2.2.2.1-kd)*pr from qM (by unfold iMul;omega) (by unfold iMul;omega),show iW (iMul kd up)=kd*up from qM (by unfold iMul;omega) (by unfold iMul;omega)]
  exact qM (by unfold iAdd;omega) (by unfold iAdd;omega)
 rw[e3]
 have p3:=qiY (a:=s.2.2-s.2.1+1) (b:=(m.2.2.2.1-kd)*pr+kd*up) (A:=20) (B:=4000060) (by omega) (by omega) (by omega) (by omega)
 exact qM (by unfold iMul;omega) (by unfold iMul;omega)
theorem qJ6{u:Uni}(K:Okay u)(b:Bnd u){h:Int}(hh:0≤h∧h<u.1.1.length):0≤(u.2.2.2.1[h.toNat]?).getD 0∧(u.2.2.2.1[h.toNat]?).getD 0≤100000:=by
 have hl:h.toNat<u.2.2.2.1.length:=by rw[K.fe];omega
 rw[List.getElem?_eq_getElem hl]
 exact b.fe _ (List.getElem_mem hl)
end Go.Proofs.YtcjcacbhkoainaaGreatDoor
