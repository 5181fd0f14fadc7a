/- Clubs, plain: a higher fee brings in no less. -/
import Derived.Test.YtlmicgmhallkkaaGreatDoorDk9
set_option linter.constructorNameAsVariable false
set_option linter.unusedSimpArgs false
set_option linter.unusedVariables false
set_option linter.unusedSectionVars false
namespace Go.Proofs.YtlmicgmhallkkaaGreatDoor
open Go Go.Proofs Go.RowKit
set_option maxHeartbeats 1000000
def prV(en:Bool)(me f:Int):Int:=cond en ((f*(100-me)+99)/100) f
theorem qGs(en:Bool){me f g:Int}(hm:me≤100)(h:f≤g):prV en me f≤prV en me g:=by
 unfold prV
 cases en with
 | false=>exact h
 | true =>
  have:f*(100-me)≤g*(100-me):=Int.mul_le_mul_of_nonneg_right h (by omega)
  simp only[cond_true]
  omega
theorem qGt{u:Uni}(K:Okay u)(b:Bnd u){m:Msg}(hm:m∈u.2.1)(h1:m.1=1){s:Stay}(hs:s∈m.2.2.2.2):∃(nts big kd:Int) (en:Bool),0≤nts∧0≤big∧0≤kd∧∀f,0≤f→f≤100000→(qgp (setF u s.1 f) m s).1=nts*(big*prV en u.2.2.2.2.2.2.2.2.1 f+kd*((prV en u.2.2.2.2.2.2.2.2.1 f*u.2.2.2.2.2.2.2.2.2.1+99)/100)):=by
 have hst:=qr5 (qsU (K.v.ms m hm) (by omega)) (Int.le_refl _) s hs
 have hin:=qy0 K.v hm h1 hs
 have hnn:u.1.2≤20:=by
  have:=K.v.ch
  unfold qcS at this
  simp only[Bool.and_eq_true,qbj] at this
  exact this.2.2.2
 have hpe:1≤m.2.2.2.1∧m.2.2.2.1≤20:=by
  have:=K.v.ms m hm
  unfold mesB canB reqB at this
  rw[show decide (m.1=2)=false from decide_eq_false (by omega)] at this
  simp only[Bool.false_and,Bool.false_or,Bool.and_eq_true,qbj] at this
  exact this.2.2.2.1
 have hg:0≤(payV u.2.2.2.2.2.1 m.2.1).2.2∧(payV u.2.2.2.2.2.1 m.2.1).2.2≤20:=by
  unfold payV
  cases hf:u.2.2.2.2.2.1.find? fun g=>iEq g.1 m.2.1 with
  | none=>exact ⟨Int.le_refl _,by show (0:Int)≤_;omega⟩
  | some g=>exact b.gk g (List.mem_of_find?_eq_some hf)
 have hlen:s.1.toNat<u.2.2.2.1.length:=by rw[K.fe];omega
 refine ⟨s.2.2-s.2.1+1,m.2.2.2.1-iMin (payV u.2.2.2.2.2.1 m.2.1).2.2 m.2.2.2.1,iMin (payV u.2.2.2.2.2.1 m.2.1).2.2 m.2.2.2.1,entV u (payV u.2.2.2.2.2.1 m.2.1).2.1 s.1,by omega,by unfold iMin;split<;>omega,by unfold iMin;split<;>omega,?_⟩
 intro f hf0 hf1
 have hset:((u.2.2.2.1.set s.1.toNat f)[s.1.toNat]?).getD 0=f:=by rw[List.getElem?_set_self hlen];rfl
 unfold qgp
 show iW (iMul _ (iW (iAdd (iW (iMul _ (cond (entV u (payV u.2.2.2.2.2.1 m.2.1).2.1 s.1) (upV ((u.2.2.2.1.set s.1.toNat f)[s.1.toNat]?.getD 0) (iW (iSub 100 u.2.2.2.2.2.2.2.2.1))) ((u.2.2.2.1.set s.1.toNat f)[s.1.toNat]?.getD 0)))) (iW (iMul _ (upV (cond (entV u (payV u.2.2.2.2.2.1 m.2.1).2.1 s.1) (upV ((u.2.2.2.1.set s.1.toNat f)[s.1.toNat]?.getD 0) (iW (iSub 100 u.2.2.2.2.2.2.2.2.1))) ((u.2.2.2.1.set s.1.toNat f)[s.1.toNat]?.getD 0)) u.2.2.2.2.2.2.2.2.2.1))))))=_
 rw[hset]
 generalize entV u (payV u.2.2.2.2.2.1 m.2.1).2.1 s.1=en
 show iW (iMul (iW (iAdd (iW (iSub s.2.2 s.2.1)) 1)) (iW (iAdd (iW (iMul (iW (iSub m.2.2.2.1 (iMin (payV u.2.2.2.2.2.1 m.2.1).2.2 m.2.2.2.1))) _)) (iW (iMul (iMin (payV u.2.2.2.2.2.1 m.2.1).2.2 m.2.2.2.1) _)))))=_
 generalize (payV u.2.2.2.2.2.1 m.2.1).2.2=g at *
 have hk:0≤iMin g m.2.2.2.1∧iMin g m.2.2.2.1≤20∧iMin g m.2.2.2.1≤m.2.2.2.1:=by
  unfold iMin;split<;>omega
 generalize iMin g m.2.2.2.1=kd at *
 have hnts:iW (iAdd (iW (iSub s.2.2 s.2.1)) 1)=s.2.2-s.2.1+1:=by
  rw[show iW (iSub s.2.2 s.2.1)=s.2.2-s.2.1 from qbd (by unfold iSub;omega) (by unfold iSub;omega)]
  exact qbd (by unfold iAdd;omega) (by unfold iAdd;omega)
 have hbig:iW (iSub m.2.2.2.1 kd)=m.2.2.2.1-kd:=qbd (by unfold iSub;omega) (by unfold iSub;omega)
 have hme:=b.me
 have h100:iW (iSub 100 u.2.2.2.2.2.2.2.2.1)=100-u.2.2.2.2.2.2.2.2.1:=qbd (by unfold iSub;omega) (by unfold iSub;omega)
 rw[hnts,hbig,h100]
 have hup:=qyi (x:=f) (p:=100-u.2.2.2.2.2.2.2.2.1) (by omega) (by omega)
 have hprv:cond en (upV f (100-u.2.2.2.2.2.2.2.2.1)) f=prV en u.2.2.2.2.2.2.2.2.1 f:=by
  unfold prV
  rw[hup.2.2]
 have hpr:0≤cond en (upV f (100-u.2.2.2.2.2.2.2.2.1)) f∧cond en (upV f (100-u.2.2.2.2.2.2.2.2.1)) f≤100001:=by
  cases en<;>simp only[cond_true,cond_false]<;>omega
 rw[hprv] at hpr ⊢
 generalize prV en u.2.2.2.2.2.2.2.2.1 f=pr at *
 have hch:=qyi (x:=pr) (p:=u.2.2.2.2.2.2.2.2.2.1) (by omega) b.ch
 rw[← hch.2.2]
 generalize upV pr u.2.2.2.2.2.2.2.2.2.1=up at *
 have p1:=quF (a:=m.2.2.2.1-kd) (b:=pr) (A:=20) (B:=100001) (by omega) (by omega) hpr.1 hpr.2
 have p2:=quF (a:=kd) (b:=up) (A:=20) (B:=100002) (by omega) (by omega) hch.1 (by omega)
 have e3:iW (iAdd (iW (iMul (m.2.2.2.1-kd) pr)) (iW (iMul kd up)))=(m.2.2.2.1-kd)*pr+kd*up:=by
  rw[show iW (iMul (m.2.2.2.1-kd) pr)=(m.2.2.2.1-kd)*pr from qbd (by unfold iMul;omega) (by unfold iMul;omega),show iW (iMul kd up)=kd*up from qbd (by unfold iMul;omega) (by unfold iMul;omega)]
  exact qbd (by unfold iAdd;omega) (by unfold iAdd;omega)
 rw[e3]
 have p3:=quF (a:=s.2.2-s.2.1+1) (b:=(m.2.2.2.1-kd)*pr+kd*up) (A:=20) (B:=4000060) (by omega) (by omega) (by omega) (by omega)
 exact qbd (by unfold iMul;omega) (by unfold iMul;omega)
theorem qDf{u:Uni}(K:Okay u)(b:Bnd u){m:Msg}(hm:m∈u.2.1)(h1:m.1=1){s:Stay}(hs:s∈m.2.2.2.2){f g:Int}(hf:0≤f)(hfg:f≤g)(hg:g≤100000):(qgp (setF u s.1 f) m s).1≤(qgp (setF u s.1 g) m s).1:=by
 obtain ⟨nts,big,kd,en,h0,h2,h3,h⟩:=qGt K b hm h1 hs
 rw[h f hf (by omega),h g (by omega) hg]
 have hp:=qGs en b.me.2 hfg
 have hch:=b.ch
 generalize prV en u.2.2.2.2.2.2.2.2.1 f=x at *
 generalize prV en u.2.2.2.2.2.2.2.2.1 g=y at *
 have a1:=Int.mul_le_mul_of_nonneg_left hp h2
 have a2:=Int.mul_le_mul_of_nonneg_right hp hch.1
 have a3:=Int.mul_le_mul_of_nonneg_left (show (x*u.2.2.2.2.2.2.2.2.2.1+99)/100≤(y*u.2.2.2.2.2.2.2.2.2.1+99)/100 by omega) h3
 exact Int.mul_le_mul_of_nonneg_left (by omega) h0
theorem qzP{u:Uni}(K:Okay u)(b:Bnd u)(hut:Int){m:Msg}(hm:m∈u.2.1)(h1:m.1=1){f g:Int}(hf:0≤f)(hfg:f≤g)(hg:g≤100000):∀Y:List Stay,(∀s,s∈Y→s∈m.2.2.2.2)→incS (setF u hut f) hut m Y≤incS (setF u hut g) hut m Y
 | [],_=>Int.le_refl _
 | s::Y,h=>by
  have:=qzP K b hut hm h1 hf hfg hg Y fun x hx=>h x (List.mem_cons_of_mem _ hx)
  have hs:=qDf K b hm h1 (h s List.mem_cons_self) hf hfg hg
  unfold incS at this ⊢
  rw[List.map_cons,List.sum_cons,List.map_cons,List.sum_cons]
  cases he:iEq s.1 hut with
  | false=>simp only[cond_false];omega
  | true =>
   have:s.1=hut:=by unfold iEq at he;simpa using he
   subst this
   simp only[cond_true];omega
theorem qv3{u:Uni}(K:Okay u)(b:Bnd u)(hut:Int){f g:Int}(hf:0≤f)(hfg:f≤g)(hg:g≤100000):∀bs:List Msg,(∀m,m∈bs→m∈u.2.1∧m.1=1)→incV (setF u hut f) hut bs≤incV (setF u hut g) hut bs
 | [],_=>Int.le_refl _
 | m::bs,h=>by
  have:=qv3 K b hut hf hfg hg bs fun x hx=>h x (List.mem_cons_of_mem _ hx)
  have hm:=h m List.mem_cons_self
  have hs:=qzP K b hut hm.1 hm.2 hf hfg hg m.2.2.2.2 fun s hs=>hs
  unfold incV at this ⊢
  rw[List.map_cons,List.sum_cons,List.map_cons,List.sum_cons]
  omega
theorem qxs(P:Int→Bool)(mono:∀x y,0≤x→x≤y→y≤100000→P x=true→P y=true):∀(m:Nat) (lo hi:Int),0≤lo→lo≤hi→hi≤100000→hi-lo≤m→P hi=true→(lo≤bsr P m lo hi∧bsr P m lo hi≤hi)∧P (bsr P m lo hi)=true∧∀f,lo≤f→f<bsr P m lo hi→P f=false
 | 0,lo,hi,h0,h1,h2,h3,hp=>⟨⟨h1,Int.le_refl _⟩,hp,fun f h4 h5=>by have:f<hi:=h5;omega⟩
 | m+1,lo,hi,h0,h1,h2,h3,hp=>by
  unfold bsr
  by_cases hlt:lo<hi
  ·rw[if_pos hlt]
   by_cases hm:P ((lo+hi)/2)=true
   ·rw[if_pos hm]
    have:=qxs P mono m lo ((lo+hi)/2) h0 (by omega) (by omega) (by omega) hm
    exact ⟨⟨this.1.1,by omega⟩,this.2.1,this.2.2⟩
   ·rw[if_neg hm]
    have:=qxs P mono m ((lo+hi)/2+1) hi (by omega) (by omega) h2 (by omega) hp
    refine ⟨⟨by omega,this.1.2⟩,this.2.1,fun f h4 h5=>?_⟩
    by_cases hf:f≤(lo+hi)/2
    ·cases hpf:P f with
     | false=>rfl
     | true=>exact absurd (mono f _ (by omega) hf (by omega) hpf) hm
    ·exact this.2.2 f (by omega) h5
  ·rw[if_neg hlt]
   exact ⟨⟨h1,Int.le_refl _⟩,hp,fun f h4 h5=>by omega⟩
theorem qDg(n:Nat)(u:Uni)(q:Int×(Int×Int))(hl:u.2.1.length≤9223372036854775807)(hl2:u.2.2.2.2.1.length≤9223372036854775807)(hn:u.2.1.length+u.2.2.2.2.1.length+200000≤n):qfk n (u,(q,()))=some (true,()):=by
 have hw:=qCp n (by omega)
 obtain ⟨hut,need,fee⟩:=q
 rw[qpj,qGn n u hl hl2 (by omega)]
 simp only[Option.bind_some,hw]
 cases hr:!qqy u&&decide (chkU u=0) with
 | false=>rfl
 | true =>
  rw[Bool.and_eq_true,Bool.not_eq_true',decide_eq_true_eq] at hr
  have hs:=qr6 hr.1
  have h:=hr.2
  have K:=qxq hs h
  have B:=qBg h
  have hfe:=K.fe
  simp only[Bool.not_true,cond_false]
  cases c1:iLt hut 0 with
  | true=>rfl
  | false =>
  cases c2:iGe hut (u.2.2.2.1.length:Int) with
  | true=>rfl
  | false =>
  cases c3:iLt need 0 with
  | true=>rfl
  | false =>
  cases c4:iGt need 1000000000 with
  | true=>rfl
  | false =>
  cases c5:iLt fee 0 with
  | true=>rfl
  | false =>
  cases c6:iGt fee 100000 with
  | true=>rfl
  | false =>
  have d1:¬hut<0:=of_decide_eq_false c1
  have d2:¬hut≥(u.2.2.2.1.length:Int):=of_decide_eq_false c2
  have d3:¬need<0:=of_decide_eq_false c3
  have d4:¬need>1000000000:=of_decide_eq_false c4
  have d5:¬fee<0:=of_decide_eq_false c5
  have d6:¬fee>100000:=of_decide_eq_false c6
  have hb:∀m,m∈qb5 u→m∈u.2.1∧m.1=1:=fun m hm=>by have:=qBf K.v hm;exact ⟨this.2.1,this.2.2.1⟩
  have hinc:=fun f (h0:0≤f) (h1:f≤100000)=>qv2 n u K B hut f (by omega) ⟨h0,h1⟩ (by omega)
  simp only[cond_false,qBl n u hs hut need (by omega),Option.bind_some,hinc 100000 (by decide) (by decide),hinc fee (by omega) (by omega)]
  unfold qr7
  rw[if_neg (by rw[h];decide),if_neg (by rw[qbj.2 (by omega)];decide),if_neg (by rw[qbj.2 (by omega)];decide)]
  by_cases hok:okP u hut need (qb5 u) 100000=false
  ·rw[if_pos hok]
   have:incV (setF u hut 100000) hut (qb5 u)<need:=by unfold okP iGe at hok;simpa using hok
   simp only[show iNe 3 0=true from rfl,show iEq 3 3=true from rfl,cond_true,show iLt (incV (setF u hut 100000) hut (qb5 u)) need=true from decide_eq_true this]
  ·rw[if_neg hok]
   have hsp:=qxs (okP u hut need (qb5 u)) (fun x y h0 h1 h2 h3=>by
    have:=qv3 K B hut h0 h1 h2 (qb5 u) hb
    have h4:need≤incV (setF u hut x) hut (qb5 u):=of_decide_eq_true h3
    exact decide_eq_true (show incV (setF u hut y) hut (qb5 u)≥need by omega)) 100000 0 100000 (by decide) (by decide) (by decide) (by decide) (by simpa using hok)
   generalize bsr (okP u hut need (qb5 u)) 100000 0 100000=r at *
   obtain ⟨⟨r0,r1⟩,r2,r3⟩:=hsp
   have r4:need≤incV (setF u hut r) hut (qb5 u):=of_decide_eq_true r2
   simp only[qd2 rfl,cond_false,show iLt r 0=false from decide_eq_false (by omega),show iGt r 100000=false from decide_eq_false (by omega),hinc r r0 r1,Option.bind_some,show iLt (incV (setF u hut r) hut (qb5 u)) need=false from decide_eq_false (by omega)]
   have:iGe fee r=iGe (incV (setF u hut fee) hut (qb5 u)) need:=by
    by_cases hfr:fee<r
    ·have:=r3 fee (by omega) hfr
     rw[show iGe fee r=false from decide_eq_false (by omega)]
     exact this.symm
    ·have:=qv3 K B hut r0 (show r≤fee by omega) (by omega) (qb5 u) hb
     rw[show iGe fee r=true from decide_eq_true (show fee≥r by omega)]
     exact (decide_eq_true (show incV (setF u hut fee) hut (qb5 u)≥need by omega)).symm
   rw[this]
   cases iGe (incV (setF u hut fee) hut (qb5 u)) need<;>rfl
end Go.Proofs.YtlmicgmhallkkaaGreatDoor
