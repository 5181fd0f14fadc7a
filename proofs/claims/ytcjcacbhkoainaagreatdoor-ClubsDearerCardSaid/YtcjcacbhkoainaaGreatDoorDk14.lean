/- Clubs, plain: with one more right no price becomes higher; with a greater fee none becomes lower. -/
import Derived.Test.YtcjcacbhkoainaaGreatDoorDk10
import Derived.Test.YtcjcacbhkoainaaGreatDoorDk13
set_option linter.constructorNameAsVariable false
set_option linter.unusedSimpArgs false
set_option linter.unusedVariables false
set_option linter.unusedSectionVars false
namespace Go.Proofs.YtcjcacbhkoainaaGreatDoor
open Go Go.Proofs Go.RowKit
set_option maxHeartbeats 1000000
def qwz(nts big kd:Int)(en:Bool)(me ch f:Int):Int:=nts*(big*prV en me f+kd*((prV en me f*ch+99)/100))
theorem qBa{nts big kd:Int}(h1:0≤nts)(h2:0≤big)(h3:0≤kd){en en':Bool}{me ch f f':Int}(hc:0≤ch)(h:prV en me f≤prV en' me f'):qwz nts big kd en me ch f≤qwz nts big kd en' me ch f':=by
 unfold qwz
 generalize prV en me f=x at *
 generalize prV en' me f'=y at *
 have a1:=Int.mul_le_mul_of_nonneg_left h h2
 have a2:=Int.mul_le_mul_of_nonneg_right h hc
 have a3:=Int.mul_le_mul_of_nonneg_left (show (x*ch+99)/100≤(y*ch+99)/100 by omega) h3
 exact Int.mul_le_mul_of_nonneg_left (by omega) h1
theorem qFQ{me f:Int}(hf:0≤f)(h0:0≤me):prV true me f≤prV false me f:=by
 unfold prV
 have:f*(100-me)≤f*100:=Int.mul_le_mul_of_nonneg_left (by omega) hf
 simp only[cond_true,cond_false]
 omega
theorem qzr{u:Uni}(K:Okay u)(b:Bnd u){m:Msg}(hm:m∈u.2.1)(h1:m.1=1){s:Stay}(hs:s∈m.2.2.2.2):0≤s.2.2-s.2.1+1∧0≤m.2.2.2.1-iMin (payV u.2.2.2.2.2.1 m.2.1).2.2 m.2.2.2.1∧0≤iMin (payV u.2.2.2.2.2.1 m.2.1).2.2 m.2.2.2.1∧∀f,0≤f→f≤100000→(qbf (setF u s.1 f) m s).1=qwz (s.2.2-s.2.1+1) (m.2.2.2.1-iMin (payV u.2.2.2.2.2.1 m.2.1).2.2 m.2.2.2.1) (iMin (payV u.2.2.2.2.2.1 m.2.1).2.2 m.2.2.2.1) (entV u (payV u.2.2.2.2.2.1 m.2.1).2.1 s.1) u.2.2.2.2.2.2.2.2.1 u.2.2.2.2.2.2.2.2.2.1 f:=by
 have hst:=qoz (qo3 (K.v.ms m hm) (by omega)) (Int.le_refl _) s hs
 have hin:=qsa K.v hm h1 hs
 have hnn:u.1.2≤20:=by
  have:=K.v.ch
  unfold qdm at this
  simp only[Bool.and_eq_true,qbd] at this
  exact this.2.2.2
 have hpe:1≤m.2.2.2.1∧m.2.2.2.1≤20:=by
  have:=K.v.ms m hm
  unfold mesB canB reqB at this
  rw[show decide (m.1=2)=false from decide_eq_false (by omega)] at this
  simp only[Bool.false_and,Bool.false_or,Bool.and_eq_true,qbd] at this
  exact this.2.2.2.1
 have hg:0≤(payV u.2.2.2.2.2.1 m.2.1).2.2∧(payV u.2.2.2.2.2.1 m.2.1).2.2≤20:=by
  unfold payV
  cases hf:u.2.2.2.2.2.1.find? fun g=>iEq g.1 m.2.1 with
  | none=>exact ⟨Int.le_refl _,by show (0:Int)≤_;omega⟩
  | some g=>exact b.gk g (List.mem_of_find?_eq_some hf)
 have hlen:s.1.toNat<u.2.2.2.1.length:=by rw[K.fe];omega
 refine ⟨by omega,by unfold iMin;split<;>omega,by unfold iMin;split<;>omega,?_⟩
 intro f hf0 hf1
 unfold qwz
 have hset:((u.2.2.2.1.set s.1.toNat f)[s.1.toNat]?).getD 0=f:=by rw[List.getElem?_set_self hlen];rfl
 unfold qbf
 show iW (iMul _ (iW (iAdd (iW (iMul _ (cond (entV u (payV u.2.2.2.2.2.1 m.2.1).2.1 s.1) (upV ((u.2.2.2.1.set s.1.toNat f)[s.1.toNat]?.getD 0) (iW (iSub 100 u.2.2.2.2.2.2.2.2.1))) ((u.2.2.2.1.set s.1.toNat f)[s.1.toNat]?.getD 0)))) (iW (iMul _ (upV (cond (entV u (payV u.2.2.2.2.2.1 m.2.1).2.1 s.1) (upV ((u.2.2.2.1.set s.1.toNat f)[s.1.toNat]?.getD 0) (iW (iSub 100 u.2.2.2.2.2.2.2.2.1))) ((u.2.2.2.1.set s.1.toNat f)[s.1.toNat]?.getD 0)) u.2.2.2.2.2.2.2.2.2.1))))))=_
 rw[hset]
 generalize entV u (payV u.2.2.2.2.2.1 m.2.1).2.1 s.1=en
 show iW (iMul (iW (iAdd (iW (iSub s.2.2 s.2.1)) 1)) (iW (iAdd (iW (iMul (iW (iSub m.2.2.2.1 (iMin (payV u.2.2.2.2.2.1 m.2.1).2.2 m.2.2.2.1))) _)) (iW (iMul (iMin (payV u.2.2.2.2.2.1 m.2.1).2.2 m.2.2.2.1) _)))))=_
 generalize (payV u.2.2.2.2.2.1 m.2.1).2.2=g at *
 have hk:0≤iMin g m.2.2.2.1∧iMin g m.2.2.2.1≤20∧iMin g m.2.2.2.1≤m.2.2.2.1:=by
  unfold iMin;split<;>omega
 generalize iMin g m.2.2.2.1=kd at *
 have hnts:iW (iAdd (iW (iSub s.2.2 s.2.1)) 1)=s.2.2-s.2.1+1:=by
  rw[show iW (iSub s.2.2 s.2.1)=s.2.2-s.2.1 from qZ (by unfold iSub;omega) (by unfold iSub;omega)]
  exact qZ (by unfold iAdd;omega) (by unfold iAdd;omega)
 have hbig:iW (iSub m.2.2.2.1 kd)=m.2.2.2.1-kd:=qZ (by unfold iSub;omega) (by unfold iSub;omega)
 have hme:=b.me
 have h100:iW (iSub 100 u.2.2.2.2.2.2.2.2.1)=100-u.2.2.2.2.2.2.2.2.1:=qZ (by unfold iSub;omega) (by unfold iSub;omega)
 rw[hnts,hbig,h100]
 have hup:=qsc (x:=f) (p:=100-u.2.2.2.2.2.2.2.2.1) (by omega) (by omega)
 have hprv:cond en (upV f (100-u.2.2.2.2.2.2.2.2.1)) f=prV en u.2.2.2.2.2.2.2.2.1 f:=by
  unfold prV
  rw[hup.2.2]
 have hpr:0≤cond en (upV f (100-u.2.2.2.2.2.2.2.2.1)) f∧cond en (upV f (100-u.2.2.2.2.2.2.2.2.1)) f≤100001:=by
  cases en<;>simp only[cond_true,cond_false]<;>omega
 rw[hprv] at hpr ⊢
 generalize prV en u.2.2.2.2.2.2.2.2.1 f=pr at *
 have hch:=qsc (x:=pr) (p:=u.2.2.2.2.2.2.2.2.2.1) (by omega) b.ch
 rw[← hch.2.2]
 generalize upV pr u.2.2.2.2.2.2.2.2.2.1=up at *
 have p1:=qmz (a:=m.2.2.2.1-kd) (b:=pr) (A:=20) (B:=100001) (by omega) (by omega) hpr.1 hpr.2
 have p2:=qmz (a:=kd) (b:=up) (A:=20) (B:=100002) (by omega) (by omega) hch.1 (by omega)
 have e3:iW (iAdd (iW (iMul (m.2.2.2.1-kd) pr)) (iW (iMul kd up)))=(m.2.2.2.1-kd)*pr+kd*up:=by
  rw[show iW (iMul (m.2.2.2.1-kd) pr)=(m.2.2.2.1-kd)*pr from qZ (by unfold iMul;omega) (by unfold iMul;omega),show iW (iMul kd up)=kd*up from qZ (by unfold iMul;omega) (by unfold iMul;omega)]
  exact qZ (by unfold iAdd;omega) (by unfold iAdd;omega)
 rw[e3]
 have p3:=qmz (a:=s.2.2-s.2.1+1) (b:=(m.2.2.2.1-kd)*pr+kd*up) (A:=20) (B:=4000060) (by omega) (by omega) (by omega) (by omega)
 exact qZ (by unfold iMul;omega) (by unfold iMul;omega)
theorem qCy{u:Uni}(K:Okay u)(b:Bnd u){h:Int}(hh:0≤h∧h<u.1.1.length):0≤(u.2.2.2.1[h.toNat]?).getD 0∧(u.2.2.2.1[h.toNat]?).getD 0≤100000:=by
 have hl:h.toNat<u.2.2.2.1.length:=by rw[K.fe];omega
 rw[List.getElem?_eq_getElem hl]
 exact b.fe _ (List.getElem_mem hl)
theorem qCz{u:Uni}(K:Okay u)(b:Bnd u){m:Msg}(hm:m∈u.2.1)(h1:m.1=1){s:Stay}(hs:s∈m.2.2.2.2){hut f:Int}(hh:0≤hut)(hf:(u.2.2.2.1[hut.toNat]?).getD 0≤f)(hf1:f≤100000):(qbf u m s).1≤(qbf (setF u hut f) m s).1∧(qbf (setF u hut f) m s).2=(qbf u m s).2:=by
 refine ⟨?_,rfl⟩
 have hin:=qsa K.v hm h1 hs
 have hfe:=qCy K b hin
 by_cases e:s.1=hut
 ·subst e
  have:=qA9 K b hm h1 hs hfe.1 hf hf1
  rw[qul] at this
  exact this
 ·have e2:((u.2.2.2.1.set hut.toNat f)[s.1.toNat]?).getD 0=(u.2.2.2.1[s.1.toNat]?).getD 0:=by
   rw[List.getElem?_set_ne (by omega)]
  have e3:qbf (setF u hut f) m s=qbf u m s:=by
   unfold qbf
   rw[show (setF u hut f).2.2.2.1=u.2.2.2.1.set hut.toNat f from rfl,e2]
   rfl
  rw[e3]
  exact Int.le_refl _
def qe7(u:Uni)(r:qlY):Uni:=(u.1,(u.2.1,(u.2.2.1,(u.2.2.2.1,(u.2.2.2.2.1,(u.2.2.2.2.2.1,(u.2.2.2.2.2.2.1++[r],u.2.2.2.2.2.2.2)))))))
theorem qD9(u:Uni)(r:qlY)(c h:Int)(he:entV u c h=true):entV (qe7 u r) c h=true:=by
 unfold entV at *
 cases hc:iLt c 0 with
 | true=>rw[hc] at he;exact he
 | false =>
  rw[hc] at he
  simp only[cond_false,Bool.or_eq_true] at he ⊢
  rcases he with he | he
  ·exact .inl he
  ·right
   show ((u.2.2.2.2.2.2.1++[r]).any fun r=>iEq r.1 c&&ownV u.2.2.2.2.1 r.2 h)=true
   rw[List.any_append,he]
   rfl
theorem qCA{u:Uni}(K:Okay u)(b:Bnd u)(r:qlY)(K':Okay (qe7 u r))(b':Bnd (qe7 u r)){m:Msg}(hm:m∈u.2.1)(h1:m.1=1){s:Stay}(hs:s∈m.2.2.2.2):(qbf (qe7 u r) m s).1≤(qbf u m s).1∧(qbf (qe7 u r) m s).2=(qbf u m s).2:=by
 refine ⟨?_,rfl⟩
 have hin:=qsa K.v hm h1 hs
 have hfe:=qCy K b hin
 obtain ⟨p1,p2,p3,p4⟩:=qzr K b hm h1 hs
 obtain ⟨_,_,_,q4⟩:=qzr (u:=qe7 u r) K' b' hm h1 hs
 have e1:=p4 _ hfe.1 hfe.2
 have e2:=q4 ((u.2.2.2.1[s.1.toNat]?).getD 0) hfe.1 hfe.2
 rw[qul] at e1
 rw[show setF (qe7 u r) s.1 ((u.2.2.2.1[s.1.toNat]?).getD 0)=qe7 u r from qul (u:=qe7 u r)] at e2
 rw[e1,e2]
 refine qBa p1 p2 p3 b.ch.1 ?_
 have h2:=qD9 u r (payV u.2.2.2.2.2.1 m.2.1).2.1 s.1
 show prV (entV (qe7 u r) (payV u.2.2.2.2.2.1 m.2.1).2.1 s.1) _ _≤prV (entV u (payV u.2.2.2.2.2.1 m.2.1).2.1 s.1) _ _
 cases h3:entV u (payV u.2.2.2.2.2.1 m.2.1).2.1 s.1 with
 | true=>rw[h2 h3];exact Int.le_refl _
 | false =>
  cases entV (qe7 u r) (payV u.2.2.2.2.2.1 m.2.1).2.1 s.1 with
  | false=>exact Int.le_refl _
  | true=>exact qFQ hfe.1 b.me.1
theorem qAo{α:Type}{f g:α→Int}:∀{l:List α},(∀x,x∈l→f x≤g x)→(l.map f).sum≤(l.map g).sum
 | [],_=>Int.le_refl _
 | x::l,h=>by
  rw[List.map_cons,List.sum_cons,List.map_cons,List.sum_cons]
  have:=qAo fun y hy=>h y (List.mem_cons_of_mem x hy)
  have:=h x List.mem_cons_self
  omega
theorem qzs{u v:Uni}(K:Okay u)(K':Okay v)(hu:chkU u=0)(hv:chkU v=0)(e1:v.1=u.1)(e2:v.2.1=u.2.1)(h:∀m s,m∈u.2.1→m.1=1→s∈m.2.2.2.2→(qbf u m s).1≤(qbf v m s).1∧(qbf v m s).2=(qbf u m s).2)(i:Int):(qdG u i).1≤(qdG v i).1∧(qdG u i).2.1=(qdG v i).2.1∧(qdG u i).2.2.1=(qdG v i).2.2.1:=by
 unfold qdG
 rw[e1,e2]
 by_cases hi:i∈accL u.1 u.2.1
 ·rw[if_pos hi,if_pos hi]
  obtain ⟨m,h1,rfl⟩:=qzj.1 hi
  obtain ⟨h2,h3,_⟩:=qFe K.v h1
  rw[qzp K.v.msgs h2 h3,(qxV K hu h2 h3).1,(qxV K' hv (by rw[e2];exact h2) h3).1]
  refine ⟨?_,?_,rfl⟩
  ·exact qAo fun s hs=>(h m s h2 h3 hs).1
  ·exact qzq fun s hs=>(h m s h2 h3 hs).2.symm
 ·rw[if_neg hi,if_neg hi]
  exact ⟨Int.le_refl _,rfl,rfl⟩
theorem quF{u:Uni}(hc:chkU u=0){hut f:Int}(hf:0≤f∧f≤100000):chkU (setF u hut f)=0:=by
 obtain ⟨h1,h2⟩:=qpI hc
 have h3:uniB (setF u hut f)=true:=by
  unfold uniB at h2 ⊢
  simp only[Bool.and_eq_true,decide_eq_true_eq,List.all_eq_true] at h2 ⊢
  obtain ⟨a1,a2,a3,a4,a5,a6,a7,a8,a9⟩:=h2
  refine ⟨a1,(show (u.2.2.2.1.set hut.toNat f).length=u.1.1.length by rw[List.length_set];exact a2),a3,a4,a5,a6,a7,?_,a9⟩
  intro x hx
  rcases List.mem_or_eq_of_mem_set (show x∈u.2.2.2.1.set hut.toNat f from hx) with h | h
  ·exact a8 x h
  ·rw[h];exact qbd.2 hf
 unfold chkU
 rw[if_pos (show chkN (setF u hut f).1 (setF u hut f).2.1=0 from h1),h3]
 rfl
theorem qum{u:Uni}(hs:Small11 u)(hut f:Int):Small11 (setF u hut f):=⟨hs.hu,hs.ln,hs.st,(show (u.2.2.2.1.set hut.toNat f).length≤20 by rw[List.length_set];exact hs.fe),hs.sh,hs.rl,hs.gu,hs.ri,hs.wo⟩
theorem qFf{u:Uni}(hs:Small11 u)(hc:chkU u=0){hut f:Int}(hh:0≤hut)(hf:(u.2.2.2.1[hut.toNat]?).getD 0≤f)(hf0:0≤f)(hf1:f≤100000)(i:Int):(qdG u i).1≤(qdG (setF u hut f) i).1∧(qdG u i).2.1=(qdG (setF u hut f) i).2.1∧(qdG u i).2.2.1=(qdG (setF u hut f) i).2.2.1 :=
 qzs (qjh hs hc) (qjh (qum hs _ _) (quF hc ⟨hf0,hf1⟩)) hc (quF hc ⟨hf0,hf1⟩) rfl rfl (fun m s hm h1 hx=>qCz (qjh hs hc) (qsb hc) hm h1 hx hh hf hf1) i
theorem qFg{u:Uni}(hs:Small11 u)(hc:chkU u=0){r:qlY}(hs':Small11 (qe7 u r))(hc':chkU (qe7 u r)=0)(i:Int):(qdG (qe7 u r) i).1≤(qdG u i).1∧(qdG (qe7 u r) i).2.1=(qdG u i).2.1∧(qdG (qe7 u r) i).2.2.1=(qdG u i).2.2.1 :=
 qzs (u:=qe7 u r) (v:=u) (qjh hs' hc') (qjh hs hc) hc' hc rfl rfl (fun m s hm h1 hx=>by
  have:=qCA (qjh hs hc) (qsb hc) r (qjh hs' hc') (qsb hc') hm h1 hx
  exact ⟨this.1,this.2.symm⟩) i
end Go.Proofs.YtcjcacbhkoainaaGreatDoor
