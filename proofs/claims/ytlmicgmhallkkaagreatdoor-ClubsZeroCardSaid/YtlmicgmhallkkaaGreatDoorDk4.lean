/- Clubs, plain: the balances add up to 0, the guests pay the prices and the taxes. -/
import Derived.Test.YtlmicgmhallkkaaGreatDoorDk3
import Derived.Test.YtlmicgmhallkkaaGreatDoorPe
set_option linter.constructorNameAsVariable false
set_option linter.unusedSimpArgs false
set_option linter.unusedVariables false
set_option linter.unusedSectionVars false
namespace Go.Proofs.YtlmicgmhallkkaaGreatDoor
open Go Go.Proofs Go.RowKit
set_option maxHeartbeats 1000000
theorem qxm{u:Uni}(h:chkU u=0):chkN u.1 u.2.1=0∧uniB u=true:=by
 unfold chkU at h
 by_cases hk:chkN u.1 u.2.1=0
 ·rw[if_pos hk] at h
  refine ⟨hk,?_⟩
  cases hu:uniB u with
  | true=>rfl
  | false=>rw[hu] at h;exact absurd h (by decide)
 ·rw[if_neg hk] at h;exact absurd h hk
theorem qE9{u:Uni}(hs:Small11 u)(h:chkU u=0):Okay u:=by
 refine qF9 hs ?_ h
 have h1:=(qBa (qxm h).1).2.2.1
 rcases hs.ln with h | h<;>omega
theorem qG4{u:Uni}(h:chkU u=0):0≤u.2.2.2.2.2.2.2.2.2.2.1∧u.2.2.2.2.2.2.2.2.2.2.1≤100000:=by
 have hb:=(qxm h).2
 unfold uniB at hb
 simp only[Bool.and_eq_true,decide_eq_true_eq,List.all_eq_true,qbO] at hb
 obtain ⟨-,-,-,-,-,-,-,-,-,-,-,-,-,c14,-⟩:=hb
 exact c14
theorem qFa{u:Uni}(K:Okay u)(b:Bnd u)(ht:0≤u.2.2.2.2.2.2.2.2.2.2.1∧u.2.2.2.2.2.2.2.2.2.2.1≤100000){m:Msg}(hm:m∈u.2.1)(h1:m.1=1){s:Stay}(hs:s∈m.2.2.2.2):0≤(qK u m s).2∧(qK u m s).2≤1000000000000:=by
 have hst:=qtx (quQ (K.v.ms m hm) (by omega)) (Int.le_refl _) s hs
 have hnn:u.1.2≤20:=by
  have:=K.v.ch
  unfold qd2 at this
  simp only[Bool.and_eq_true,qbO] at this
  exact this.2.2.2
 have hpe:1≤m.2.2.2.1∧m.2.2.2.1≤20:=by
  have:=K.v.ms m hm
  unfold mesB canB reqB at this
  rw[show decide (m.1=2)=false from decide_eq_false (by omega)] at this
  simp only[Bool.false_and,Bool.false_or,Bool.and_eq_true,qbO] at this
  exact this.2.2.2.1
 have hg:0≤(payV u.2.2.2.2.2.1 m.2.1).2.2∧(payV u.2.2.2.2.2.1 m.2.1).2.2≤20:=by
  unfold payV
  cases hf:u.2.2.2.2.2.1.find? fun g=>iEq g.1 m.2.1 with
  | none=>exact ⟨Int.le_refl _,by show (0:Int)≤_;omega⟩
  | some g=>exact b.gk g (List.mem_of_find?_eq_some hf)
 unfold qK
 simp only
 generalize (payV u.2.2.2.2.2.1 m.2.1).2.2=g at *
 have hk:0≤iMin g m.2.2.2.1∧iMin g m.2.2.2.1≤20∧iMin g m.2.2.2.1≤m.2.2.2.1:=by
  unfold iMin;split<;>omega
 generalize iMin g m.2.2.2.1=kd at *
 have hnts:iW (iAdd (iW (iSub s.2.2 s.2.1)) 1)=s.2.2-s.2.1+1:=by
  rw[show iW (iSub s.2.2 s.2.1)=s.2.2-s.2.1 from qbc (by unfold iSub;omega) (by unfold iSub;omega)]
  exact qbc (by unfold iAdd;omega) (by unfold iAdd;omega)
 have hbig:iW (iSub m.2.2.2.1 kd)=m.2.2.2.1-kd:=qbc (by unfold iSub;omega) (by unfold iSub;omega)
 rw[hnts,hbig]
 have p1:=qpf (a:=s.2.2-s.2.1+1) (b:=m.2.2.2.1-kd) (A:=20) (B:=20) (by omega) (by omega) (by omega) (by omega)
 rw[show iW (iMul (s.2.2-s.2.1+1) (m.2.2.2.1-kd))=(s.2.2-s.2.1+1)*(m.2.2.2.1-kd) from qbc (by unfold iMul;omega) (by unfold iMul;omega)]
 have p2:=qpf (a:=(s.2.2-s.2.1+1)*(m.2.2.2.1-kd)) (b:=u.2.2.2.2.2.2.2.2.2.2.1) (A:=400) (B:=100000) p1.1 (by omega) ht.1 ht.2
 rw[show iW (iMul ((s.2.2-s.2.1+1)*(m.2.2.2.1-kd)) u.2.2.2.2.2.2.2.2.2.2.1)=(s.2.2-s.2.1+1)*(m.2.2.2.1-kd)*u.2.2.2.2.2.2.2.2.2.2.1 from qbc (by unfold iMul;omega) (by unfold iMul;omega)]
 omega
theorem qyM{u:Uni}{m:Msg}:∀(l:List Stay) (p:Int×Int),(∀s,s∈l→(0≤(qK u m s).1∧(qK u m s).1≤1000000000000)∧(0≤(qK u m s).2∧(qK u m s).2≤1000000000000))→l.length≤20 →
  0≤p.1→p.1+1000000000000*(l.length:Int)≤100000000000000→0≤p.2→p.2+1000000000000*(l.length:Int)≤100000000000000 →
  l.foldl (quT u m) p=(p.1+(l.map fun s=>(qK u m s).1).sum,p.2+(l.map fun s=>(qK u m s).2).sum)∧0≤(l.map fun s=>(qK u m s).1).sum∧0≤(l.map fun s=>(qK u m s).2).sum
 | [],p,_,_,_,_,_,_=>by simp
 | s::l,p,h,hl,h0,h1,h2,h3=>by
  have hs:=h s List.mem_cons_self
  simp only[List.length_cons] at hl h1 h3
  have e1:iW (iAdd p.1 (qK u m s).1)=p.1+(qK u m s).1:=qbc (by unfold iAdd;omega) (by unfold iAdd;omega)
  have e2:iW (iAdd p.2 (qK u m s).2)=p.2+(qK u m s).2:=qbc (by unfold iAdd;omega) (by unfold iAdd;omega)
  obtain ⟨i1,i2,i3⟩:=qyM (u:=u) (m:=m) l (p.1+(qK u m s).1,p.2+(qK u m s).2) (fun x hx=>h x (List.mem_cons_of_mem _ hx)) (by omega) (by simp only;omega) (by simp only;omega) (by simp only;omega) (by simp only;omega)
  rw[List.foldl_cons,show quT u m p s=(p.1+(qK u m s).1,p.2+(qK u m s).2) by unfold quT;rw[e1,e2],i1]
  simp only[List.map_cons,List.sum_cons]
  refine ⟨?_,by omega,by omega⟩
  rw[Int.add_assoc,Int.add_assoc]
def qm5(u:Uni)(m:Msg):Int:=(m.2.2.2.2.map fun s=>(qK u m s).1).sum
def qlN(u:Uni)(m:Msg):Int:=(m.2.2.2.2.map fun s=>(qK u m s).2).sum
theorem qDC{u:Uni}(K:Okay u)(h:chkU u=0){m:Msg}(hm:m∈u.2.1)(h1:m.1=1):qxj u m=(qm5 u m,qlN u m)∧0≤qm5 u m∧0≤qlN u m:=by
 have hst:=K.v.st m hm
 obtain ⟨a,b,c⟩:=qyM (u:=u) (m:=m) m.2.2.2.2 (0,0) (fun s hs=>⟨qwl K (quV h) hm h1 hs,qFa K (quV h) (qG4 h) hm h1 hs⟩) hst (by simp) (by simp only;omega) (by simp) (by simp only;omega)
 refine ⟨?_,b,c⟩
 unfold qxj
 rw[a]
 simp[qm5,qlN]
theorem qxY{u:Uni}(K:Okay u)(B:Bnd u){a h:Int}(hh:0≤h∧h<u.1.1.length){j:Nat}(hj:u.2.2.1≤(j:Int)):shV u a h j=0:=by
 obtain ⟨_,r2,_⟩:=qDB K B hh
 unfold shV
 rw[List.getElem?_eq_none (by rw[qxl];omega)]
 rfl
theorem qAm{α:Type}{f:α→Int}:∀{l:List α},(∀x,x∈l→f x=0)→(l.map f).sum=0
 | [],_=>rfl
 | x::l,h=>by rw[List.map_cons,List.sum_cons,h x List.mem_cons_self,qAm fun y hy=>h y (List.mem_cons_of_mem _ hy)];rfl
theorem qq0{α:Type}{f g:α→Int}:∀{l:List α},(∀x,x∈l→f x=g x)→(l.map f).sum=(l.map g).sum
 | [],_=>rfl
 | x::l,h=>by rw[List.map_cons,List.map_cons,List.sum_cons,List.sum_cons,h x List.mem_cons_self,qq0 fun y hy=>h y (List.mem_cons_of_mem _ hy)]
theorem qxZ{α:Type}{f:α→Int}:∀{l:List α},(l.map fun x=>-f x).sum = -(l.map f).sum
 | []=>rfl
 | x::l=>by rw[List.map_cons,List.map_cons,List.sum_cons,List.sum_cons,qxZ];omega
theorem qx0{α:Type}{f g:α→Int}:∀{l:List α},(l.map fun x=>f x+g x).sum=(l.map f).sum+(l.map g).sum
 | []=>rfl
 | x::l=>by simp only[List.map_cons,List.sum_cons,qx0];omega
theorem qGm{u:Uni}(K:Okay u)(B:Bnd u){bs:List Msg}(hb:∀m,m∈bs→m∈u.2.1∧m.1=1){c:Nat}(hc:u.2.2.1=(c:Int)):accT u bs c=(bs.map (qlN u)).sum∧accT u bs (c+1) = -((bs.map (qm5 u)).sum+(bs.map (qlN u)).sum):=by
 have hw:∀j:Nat,u.2.2.1≤(j:Int)→(u.2.2.2.2.2.2.2.1.map fun w=>qvi u w j).sum=0:=fun j hj=>qAm fun w hw=>by
  have:=K.wo w hw
  unfold qvi
  rw[if_neg (by omega),qxY K B (by omega) hj]
  rfl
 unfold accT
 rw[hw c (by omega),hw (c+1) (by omega)]
 constructor
 ·rw[Int.add_zero]
  refine qq0 fun m hm=>?_
  unfold msgC qlN
  refine qq0 fun s hs=>?_
  unfold qvh
  rw[qxY K B (qsO K.v (hb m hm).1 (hb m hm).2 hs) (by omega),if_pos (by omega),if_neg (by omega)]
  omega
 ·rw[Int.add_zero,← qx0,← qxZ]
  refine qq0 fun m hm=>?_
  unfold msgC qlN qm5
  rw[← qx0,← qxZ]
  refine qq0 fun s hs=>?_
  unfold qvh
  rw[qxY K B (qsO K.v (hb m hm).1 (hb m hm).2 hs) (by omega),if_neg (by omega),if_pos (by omega)]
  omega
theorem qAn(c:Chn):∀(q:List Msg) (d:DecS),((q.foldl (dcF c) d).1++(q.foldl (dcF c) d).2.1).Perm (d.1++d.2.1++q)
 | [],d=>by simp
 | m::q,d=>by
  rw[List.foldl_cons]
  refine (qAn c q (dcF c d m)).trans ?_
  unfold dcF
  split
  ·simp[List.append_assoc]
  ·simp only[List.append_assoc,List.singleton_append,List.cons_append]
   refine List.Perm.append_left _ ?_
   rw[← List.append_assoc]
   exact (List.perm_middle (a:=m) (l₁:=d.2.1) (l₂:=q)).symm.trans (by simp)
theorem qGn{u:Uni}(V:Vld u.1 u.2.1){i:Int}(h:i∈qm4 u.1 u.2.1):i∉accL u.1 u.2.1:=fun h'=>by
 obtain ⟨x,hx,e1⟩:=qDe.1 h
 obtain ⟨y,hy,e2⟩:=qAa.1 h'
 have hxq:=qjO.2 (qwi.1 (.inr hx))
 have hyq:=qjO.2 (qwi.1 (.inl hy))
 obtain rfl:=qAc V.msgs hxq hyq (e1.trans e2.symm)
 have hp:=qAn u.1 (qfW u.2.1) ([],([],[]))
 have hnd:(qfW u.2.1).Nodup:=qAE V.msgs
 have hnd2:=hp.nodup_iff.2 (by simpa using hnd)
 rw[List.nodup_append] at hnd2
 exact hnd2.2.2 x hy x hx rfl
end Go.Proofs.YtlmicgmhallkkaaGreatDoor
