/- Clubs, plain: the balances add up to 0, the guests pay the prices and the taxes. -/
import Derived.Test.YtcjcacbhkoainaaGreatDoorDk3
import Derived.Test.YtcjcacbhkoainaaGreatDoorPe
set_option linter.constructorNameAsVariable false
set_option linter.unusedSimpArgs false
set_option linter.unusedVariables false
set_option linter.unusedSectionVars false
namespace Go.Proofs.YtcjcacbhkoainaaGreatDoor
open Go Go.Proofs Go.RowKit
set_option maxHeartbeats 1000000
theorem qpI{u:Uni}(h:chkU u=0):chkN u.1 u.2.1=0∧uniB u=true:=by
 unfold chkU at h
 by_cases hk:chkN u.1 u.2.1=0
 ·rw[if_pos hk] at h
  refine ⟨hk,?_⟩
  cases hu:uniB u with
  | true=>rfl
  | false=>rw[hu] at h;exact absurd h (by decide)
 ·rw[if_neg hk] at h;exact absurd h hk
theorem qjh{u:Uni}(hs:Small11 u)(h:chkU u=0):Okay u:=by
 refine qFa hs ?_ h
 have h1:=(qAd (qpI h).1).2.2.1
 rcases hs.ln with h | h<;>omega
theorem qFP{u:Uni}(h:chkU u=0):0≤u.2.2.2.2.2.2.2.2.2.2.1∧u.2.2.2.2.2.2.2.2.2.2.1≤100000:=by
 have hb:=(qpI h).2
 unfold uniB at hb
 simp only[Bool.and_eq_true,decide_eq_true_eq,List.all_eq_true,qbd] at hb
 obtain ⟨-,-,-,-,-,-,-,-,-,-,-,-,-,c14,-⟩:=hb
 exact c14
theorem qD5{u:Uni}(K:Okay u)(b:Bnd u)(ht:0≤u.2.2.2.2.2.2.2.2.2.2.1∧u.2.2.2.2.2.2.2.2.2.2.1≤100000){m:Msg}(hm:m∈u.2.1)(h1:m.1=1){s:Stay}(hs:s∈m.2.2.2.2):0≤(qbf u m s).2∧(qbf u m s).2≤1000000000000:=by
 have hst:=qoz (qo3 (K.v.ms m hm) (by omega)) (Int.le_refl _) s hs
 have hnn:u.1.2≤20:=by
  have:=K.v.ch
  unfold qdm at this
  simp only[Bool.and_eq_true,qbd] at this
  exact this.2.2.2
 have hpe:1≤m.2.2.2.1∧m.2.2.2.1≤20:=by
  have:=K.v.ms m hm
  unfold mesB canB reqB at this
  rw[show decide (m.1=2)=false from decide_eq_false (by omega)] at this
  simp only[Bool.false_and,Bool.false_or,Bool.and_eq_true,qbd] at this
  exact this.2.2.2.1
 have hg:0≤(payV u.2.2.2.2.2.1 m.2.1).2.2∧(payV u.2.2.2.2.2.1 m.2.1).2.2≤20:=by
  unfold payV
  cases hf:u.2.2.2.2.2.1.find? fun g=>iEq g.1 m.2.1 with
  | none=>exact ⟨Int.le_refl _,by show (0:Int)≤_;omega⟩
  | some g=>exact b.gk g (List.mem_of_find?_eq_some hf)
 unfold qbf
 simp only
 generalize (payV u.2.2.2.2.2.1 m.2.1).2.2=g at *
 have hk:0≤iMin g m.2.2.2.1∧iMin g m.2.2.2.1≤20∧iMin g m.2.2.2.1≤m.2.2.2.1:=by
  unfold iMin;split<;>omega
 generalize iMin g m.2.2.2.1=kd at *
 have hnts:iW (iAdd (iW (iSub s.2.2 s.2.1)) 1)=s.2.2-s.2.1+1:=by
  rw[show iW (iSub s.2.2 s.2.1)=s.2.2-s.2.1 from qZ (by unfold iSub;omega) (by unfold iSub;omega)]
  exact qZ (by unfold iAdd;omega) (by unfold iAdd;omega)
 have hbig:iW (iSub m.2.2.2.1 kd)=m.2.2.2.1-kd:=qZ (by unfold iSub;omega) (by unfold iSub;omega)
 rw[hnts,hbig]
 have p1:=qmz (a:=s.2.2-s.2.1+1) (b:=m.2.2.2.1-kd) (A:=20) (B:=20) (by omega) (by omega) (by omega) (by omega)
 rw[show iW (iMul (s.2.2-s.2.1+1) (m.2.2.2.1-kd))=(s.2.2-s.2.1+1)*(m.2.2.2.1-kd) from qZ (by unfold iMul;omega) (by unfold iMul;omega)]
 have p2:=qmz (a:=(s.2.2-s.2.1+1)*(m.2.2.2.1-kd)) (b:=u.2.2.2.2.2.2.2.2.2.2.1) (A:=400) (B:=100000) p1.1 (by omega) ht.1 ht.2
 rw[show iW (iMul ((s.2.2-s.2.1+1)*(m.2.2.2.1-kd)) u.2.2.2.2.2.2.2.2.2.2.1)=(s.2.2-s.2.1+1)*(m.2.2.2.1-kd)*u.2.2.2.2.2.2.2.2.2.2.1 from qZ (by unfold iMul;omega) (by unfold iMul;omega)]
 omega
theorem qxU{u:Uni}{m:Msg}:∀(l:List Stay) (p:Int×Int),(∀s,s∈l→(0≤(qbf u m s).1∧(qbf u m s).1≤1000000000000)∧(0≤(qbf u m s).2∧(qbf u m s).2≤1000000000000))→l.length≤20 →
  0≤p.1→p.1+1000000000000*(l.length:Int)≤100000000000000→0≤p.2→p.2+1000000000000*(l.length:Int)≤100000000000000 →
  l.foldl (quj u m) p=(p.1+(l.map fun s=>(qbf u m s).1).sum,p.2+(l.map fun s=>(qbf u m s).2).sum)∧0≤(l.map fun s=>(qbf u m s).1).sum∧0≤(l.map fun s=>(qbf u m s).2).sum
 | [],p,_,_,_,_,_,_=>by simp
 | s::l,p,h,hl,h0,h1,h2,h3=>by
  have hs:=h s List.mem_cons_self
  simp only[List.length_cons] at hl h1 h3
  have e1:iW (iAdd p.1 (qbf u m s).1)=p.1+(qbf u m s).1:=qZ (by unfold iAdd;omega) (by unfold iAdd;omega)
  have e2:iW (iAdd p.2 (qbf u m s).2)=p.2+(qbf u m s).2:=qZ (by unfold iAdd;omega) (by unfold iAdd;omega)
  obtain ⟨i1,i2,i3⟩:=qxU (u:=u) (m:=m) l (p.1+(qbf u m s).1,p.2+(qbf u m s).2) (fun x hx=>h x (List.mem_cons_of_mem _ hx)) (by omega) (by simp only;omega) (by simp only;omega) (by simp only;omega) (by simp only;omega)
  rw[List.foldl_cons,show quj u m p s=(p.1+(qbf u m s).1,p.2+(qbf u m s).2) by unfold quj;rw[e1,e2],i1]
  simp only[List.map_cons,List.sum_cons]
  refine ⟨?_,by omega,by omega⟩
  rw[Int.add_assoc,Int.add_assoc]
def qA7(u:Uni)(m:Msg):Int:=(m.2.2.2.2.map fun s=>(qbf u m s).1).sum
def qA8(u:Uni)(m:Msg):Int:=(m.2.2.2.2.map fun s=>(qbf u m s).2).sum
theorem qxV{u:Uni}(K:Okay u)(h:chkU u=0){m:Msg}(hm:m∈u.2.1)(h1:m.1=1):qwy u m=(qA7 u m,qA8 u m)∧0≤qA7 u m∧0≤qA8 u m:=by
 have hst:=K.v.st m hm
 obtain ⟨a,b,c⟩:=qxU (u:=u) (m:=m) m.2.2.2.2 (0,0) (fun s hs=>⟨qDZ K (qsb h) hm h1 hs,qD5 K (qsb h) (qFP h) hm h1 hs⟩) hst (by simp) (by simp only;omega) (by simp) (by simp only;omega)
 refine ⟨?_,b,c⟩
 unfold qwy
 rw[a]
 simp[qA7,qA8]
theorem qzq{α:Type}{f g:α→Int}:∀{l:List α},(∀x,x∈l→f x=g x)→(l.map f).sum=(l.map g).sum
 | [],_=>rfl
 | x::l,h=>by rw[List.map_cons,List.map_cons,List.sum_cons,List.sum_cons,h x List.mem_cons_self,qzq fun y hy=>h y (List.mem_cons_of_mem _ hy)]
end Go.Proofs.YtcjcacbhkoainaaGreatDoor
