/- Clubs, plain: a higher fee brings in no less. -/
import Derived.Test.YtcjcacbhkoainaaGreatDoorDk9
set_option linter.constructorNameAsVariable false
set_option linter.unusedSimpArgs false
set_option linter.unusedVariables false
set_option linter.unusedSectionVars false
namespace Go.Proofs.YtcjcacbhkoainaaGreatDoor
open Go Go.Proofs Go.RowKit
set_option maxHeartbeats 1000000
def prV(en:Bool)(me f:Int):Int:=cond en ((f*(100-me)+99)/100) f
theorem qD7(en:Bool){me f g:Int}(hm:me≤100)(h:f≤g):prV en me f≤prV en me g:=by
 unfold prV
 cases en with
 | false=>exact h
 | true =>
  have:f*(100-me)≤g*(100-me):=Int.mul_le_mul_of_nonneg_right h (by omega)
  simp only[cond_true]
  omega
theorem qD8{u:Uni}(K:Okay u)(b:Bnd u){m:Msg}(hm:m∈u.2.1)(h1:m.1=1){s:Stay}(hs:s∈m.2.2.2.2):∃(nts big kd:Int) (en:Bool),0≤nts∧0≤big∧0≤kd∧∀f,0≤f→f≤100000→(qbf (setF u s.1 f) m s).1=nts*(big*prV en u.2.2.2.2.2.2.2.2.1 f+kd*((prV en u.2.2.2.2.2.2.2.2.1 f*u.2.2.2.2.2.2.2.2.2.1+99)/100)):=by
 have hst:=qoz (qo3 (K.v.ms m hm) (by omega)) (Int.le_refl _) s hs
 have hin:=qsa K.v hm h1 hs
 have hnn:u.1.2≤20:=by
  have:=K.v.ch
  unfold qdm at this
  simp only[Bool.and_eq_true,qbd] at this
  exact this.2.2.2
 have hpe:1≤m.2.2.2.1∧m.2.2.2.1≤20:=by
  have:=K.v.ms m hm
  unfold mesB canB reqB at this
  rw[show decide (m.1=2)=false from decide_eq_false (by omega)] at this
  simp only[Bool.false_and,Bool.false_or,Bool.and_eq_true,qbd] at this
  exact this.2.2.2.1
 have hg:0≤(payV u.2.2.2.2.2.1 m.2.1).2.2∧(payV u.2.2.2.2.2.1 m.2.1).2.2≤20:=by
  unfold payV
  cases hf:u.2.2.2.2.2.1.find? fun g=>iEq g.1 m.2.1 with
  | none=>exact ⟨Int.le_refl _,by show (0:Int)≤_;omega⟩
  | some g=>exact b.gk g (List.mem_of_find?_eq_some hf)
 have hlen:s.1.toNat<u.2.2.2.1.length:=by rw[K.fe];omega
 refine ⟨s.2.2-s.2.1+1,m.2.2.2.1-iMin (payV u.2.2.2.2.2.1 m.2.1).2.2 m.2.2.2.1,iMin (payV u.2.2.2.2.2.1 m.2.1).2.2 m.2.2.2.1,entV u (payV u.2.2.2.2.2.1 m.2.1).2.1 s.1,by omega,by unfold iMin;split<;>omega,by unfold iMin;split<;>omega,?_⟩
 intro f hf0 hf1
 have hset:((u.2.2.2.1.set s.1.toNat f)[s.1.toNat]?).getD 0=f:=by rw[List.getElem?_set_self hlen];rfl
 unfold qbf
 show iW (iMul _ (iW (iAdd (iW (iMul _ (cond (entV u (payV u.2.2.2.2.2.1 m.2.1).2.1 s.1) (upV ((u.2.2.2.1.set s.1.toNat f)[s.1.toNat]?.getD 0) (iW (iSub 100 u.2.2.2.2.2.2.2.2.1))) ((u.2.2.2.1.set s.1.toNat f)[s.1.toNat]?.getD 0)))) (iW (iMul _ (upV (cond (entV u (payV u.2.2.2.2.2.1 m.2.1).2.1 s.1) (upV ((u.2.2.2.1.set s.1.toNat f)[s.1.toNat]?.getD 0) (iW (iSub 100 u.2.2.2.2.2.2.2.2.1))) ((u.2.2.2.1.set s.1.toNat f)[s.1.toNat]?.getD 0)) u.2.2.2.2.2.2.2.2.2.1))))))=_
 rw[hset]
 generalize entV u (payV u.2.2.2.2.2.1 m.2.1).2.1 s.1=en
 show iW (iMul (iW (iAdd (iW (iSub s.2.2 s.2.1)) 1)) (iW (iAdd (iW (iMul (iW (iSub m.2.2.2.1 (iMin (payV u.2.2.2.2.2.1 m.2.1).2.2 m.2.2.2.1))) _)) (iW (iMul (iMin (payV u.2.2.2.2.2.1 m.2.1).2.2 m.2.2.2.1) _)))))=_
 generalize (payV u.2.2.2.2.2.1 m.2.1).2.2=g at *
 have hk:0≤iMin g m.2.2.2.1∧iMin g m.2.2.2.1≤20∧iMin g m.2.2.2.1≤m.2.2.2.1:=by
  unfold iMin;split<;>omega
 generalize iMin g m.2.2.2.1=kd at *
 have hnts:iW (iAdd (iW (iSub s.2.2 s.2.1)) 1)=s.2.2-s.2.1+1:=by
  rw[show iW (iSub s.2.2 s.2.1)=s.2.2-s.2.1 from qZ (by unfold iSub;omega) (by unfold iSub;omega)]
  exact qZ (by unfold iAdd;omega) (by unfold iAdd;omega)
 have hbig:iW (iSub m.2.2.2.1 kd)=m.2.2.2.1-kd:=qZ (by unfold iSub;omega) (by unfold iSub;omega)
 have hme:=b.me
 have h100:iW (iSub 100 u.2.2.2.2.2.2.2.2.1)=100-u.2.2.2.2.2.2.2.2.1:=qZ (by unfold iSub;omega) (by unfold iSub;omega)
 rw[hnts,hbig,h100]
 have hup:=qsc (x:=f) (p:=100-u.2.2.2.2.2.2.2.2.1) (by omega) (by omega)
 have hprv:cond en (upV f (100-u.2.2.2.2.2.2.2.2.1)) f=prV en u.2.2.2.2.2.2.2.2.1 f:=by
  unfold prV
  rw[hup.2.2]
 have hpr:0≤cond en (upV f (100-u.2.2.2.2.2.2.2.2.1)) f∧cond en (upV f (100-u.2.2.2.2.2.2.2.2.1)) f≤100001:=by
  cases en<;>simp only[cond_true,cond_false]<;>omega
 rw[hprv] at hpr ⊢
 generalize prV en u.2.2.2.2.2.2.2.2.1 f=pr at *
 have hch:=qsc (x:=pr) (p:=u.2.2.2.2.2.2.2.2.2.1) (by omega) b.ch
 rw[← hch.2.2]
 generalize upV pr u.2.2.2.2.2.2.2.2.2.1=up at *
 have p1:=qmz (a:=m.2.2.2.1-kd) (b:=pr) (A:=20) (B:=100001) (by omega) (by omega) hpr.1 hpr.2
 have p2:=qmz (a:=kd) (b:=up) (A:=20) (B:=100002) (by omega) (by omega) hch.1 (by omega)
 have e3:iW (iAdd (iW (iMul (m.2.2.2.1-kd) pr)) (iW (iMul kd up)))=(m.2.2.2.1-kd)*pr+kd*up:=by
  rw[show iW (iMul (m.2.2.2.1-kd) pr)=(m.2.2.2.1-kd)*pr from qZ (by unfold iMul;omega) (by unfold iMul;omega),show iW (iMul kd up)=kd*up from qZ (by unfold iMul;omega) (by unfold iMul;omega)]
  exact qZ (by unfold iAdd;omega) (by unfold iAdd;omega)
 rw[e3]
 have p3:=qmz (a:=s.2.2-s.2.1+1) (b:=(m.2.2.2.1-kd)*pr+kd*up) (A:=20) (B:=4000060) (by omega) (by omega) (by omega) (by omega)
 exact qZ (by unfold iMul;omega) (by unfold iMul;omega)
theorem qA9{u:Uni}(K:Okay u)(b:Bnd u){m:Msg}(hm:m∈u.2.1)(h1:m.1=1){s:Stay}(hs:s∈m.2.2.2.2){f g:Int}(hf:0≤f)(hfg:f≤g)(hg:g≤100000):(qbf (setF u s.1 f) m s).1≤(qbf (setF u s.1 g) m s).1:=by
 obtain ⟨nts,big,kd,en,h0,h2,h3,h⟩:=qD8 K b hm h1 hs
 rw[h f hf (by omega),h g (by omega) hg]
 have hp:=qD7 en b.me.2 hfg
 have hch:=b.ch
 generalize prV en u.2.2.2.2.2.2.2.2.1 f=x at *
 generalize prV en u.2.2.2.2.2.2.2.2.1 g=y at *
 have a1:=Int.mul_le_mul_of_nonneg_left hp h2
 have a2:=Int.mul_le_mul_of_nonneg_right hp hch.1
 have a3:=Int.mul_le_mul_of_nonneg_left (show (x*u.2.2.2.2.2.2.2.2.2.1+99)/100≤(y*u.2.2.2.2.2.2.2.2.2.1+99)/100 by omega) h3
 exact Int.mul_le_mul_of_nonneg_left (by omega) h0
end Go.Proofs.YtcjcacbhkoainaaGreatDoor
