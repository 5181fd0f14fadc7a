/- Clubs, plain: the reference's stays, bookings and fees. -/
import Derived.Test.YtlmicgmhallkkaaGreatDoorDk7
import Derived.Test.YtlmicgmhallkkaaGreatDoorDk2
import Derived.Test.YtlmicgmhallkkaaGreatDoorPd
set_option linter.constructorNameAsVariable false
set_option linter.unusedSimpArgs false
set_option linter.unusedVariables false
set_option linter.unusedSectionVars false
namespace Go.Proofs.YtlmicgmhallkkaaGreatDoor
open Go Go.Proofs Go.RowKit
set_option maxHeartbeats 1000000
theorem qD2{α:Type}(p:α→Bool):∀(l:List α) (k:Nat) (hk:k<l.length),p l[k]=true→(l.take k).any p=false→List.find? p l=some l[k]
 | [],k,hk,_,_=>absurd hk (Nat.not_lt_zero _)
 | x::l,0,_,a,_=>List.find?_cons_of_pos a
 | x::l,k+1,hk,a,c=>by
  rw[List.take_succ_cons,List.any_cons,Bool.or_eq_false_iff] at c
  rw[List.find?_cons_of_neg (by rw[c.1];decide)]
  exact qD2 p l k (Nat.lt_of_succ_lt_succ hk) a c.2
theorem qDj(n:Nat)(i:Int)(u:Uni)(hl:u.2.2.2.2.2.1.length≤1000)(hn:2000≤n):qlK n (u,(i,()))=some (payV u.2.2.2.2.2.1 i,()):=by
 rw[qts]
 have h1:=qcX (step:=qkm n) u.2.2.2.2.2.1 (fun k=>(i,((k:Int),(u,(((0:Int),((0:Int),(0:Int))),()))))) (fun g=>iEq g.1 i) (fun k=>.inr ((u.2.2.2.2.2.1[k]?).getD (0,(0,0)),())) (.inl (i,(((0:Int),((0:Int),(0:Int))),()))) (fun rec k hk=>by
  rw[qmN]
  simp only[qk hk,cond_true,qm _ hk,Option.bind_some,qg (show k<9223372036854775807 by omega),List.getElem?_eq_getElem hk,Option.getD_some]) (fun rec=>by
  rw[qmN]
  simp only[ql,cond_false]) (n:=n) (by omega)
 unfold payV
 rcases h1 with ⟨h1,h2⟩ | ⟨k,hk,h1,h3,h2⟩
 ·rw[List.find?_eq_none.2 (fun x hx=>by have:=List.any_eq_false.1 h1 x hx;simpa using this)]
  show Option.bind (qb n _ (i,(((0:Nat):Int),(u,(((0:Int),((0:Int),(0:Int))),()))))) _=_
  rw[h2];rfl
 ·rw[qD2 _ _ k hk h1 h3]
  show Option.bind (qb n _ (i,(((0:Nat):Int),(u,(((0:Int),((0:Int),(0:Int))),()))))) _=_
  rw[h2,List.getElem?_eq_getElem hk];rfl
theorem qGn{u:Uni}(K:Okay u)(B:Bnd u){c h:Int}(hc:0≤c∧c≤u.2.2.1-1)(hh:0≤h∧h<u.1.1.length):∃row v,lat u.2.2.2.2.1 h=some row∧lat row c=some v∧iGt v 0=ownV u.2.2.2.2.1 c h:=by
 obtain ⟨j,rfl⟩:=Int.eq_ofNat_of_zero_le hh.1
 obtain ⟨i,rfl⟩:=Int.eq_ofNat_of_zero_le hc.1
 have hj:j<u.2.2.2.2.1.length:=by rw[K.sh];omega
 have hr:=K.rows _ (List.getElem_mem hj)
 have hi:i<(u.2.2.2.2.1[j]).length:=by omega
 have hb:=(B.ro _ (List.getElem_mem hj)).1 _ (List.getElem_mem hi)
 refine ⟨_,_,qm _ hj,qm _ hi,?_⟩
 unfold ownV
 rw[Int.toNat_natCast,Int.toNat_natCast,List.getElem?_eq_getElem hj,Option.getD_some,List.getElem?_eq_getElem hi,Option.getD_some]
 generalize u.2.2.2.2.1[j][i]=v at *
 by_cases hv:v=0
 ·subst hv;rfl
 ·rw[qf3 hv]
  exact decide_eq_true (show v>0 by omega)
theorem qGo(n:Nat)(c h:Int)(u:Uni)(K:Okay u)(B:Bnd u)(hc:-1≤c∧c≤u.2.2.1-1)(hh:0≤h∧h<u.1.1.length)(hn:2000≤n):qjG n (u,(c,(h,())))=some (entV u c h,()):=by
 have hrl:=K.rl
 rw[qrW]
 unfold entV
 cases hc0:iLt c 0 with
 | true=>simp only[hc0];rfl
 | false =>
  have h0:0≤c:=by unfold iLt at hc0;simpa using hc0
  have h1:=qj4 (step:=qfX n) u.2.2.2.2.2.2.1 (fun k=>(c,(h,((k:Int),(u,()))))) (fun r=>iEq r.1 c&&ownV u.2.2.2.2.1 r.2 h) (.inr (true,())) (.inl (c,(h,(u,())))) (fun rec k hk=>by
   have hr:=K.ri _ (List.getElem_mem hk)
   obtain ⟨row,v,e1,e2,e3⟩:=qGn K B hr.2 hh
   rw[qk3]
   simp only[qk hk,cond_true,qm _ hk,Option.bind_some,qg (show k<9223372036854775807 by omega),e1,e2,e3]
   cases iEq (u.2.2.2.2.2.2.1[k]).1 c<;>cases ownV u.2.2.2.2.1 (u.2.2.2.2.2.2.1[k]).2 h<;>rfl) (fun rec=>by
   rw[qk3]
   simp only[ql,cond_false]) (n:=n) (by omega)
  have h1':qb n (qfX n) (c,(h,((0:Int),(u,()))))=_:=h1
  obtain ⟨row,v,e1,e2,e3⟩:=qGn K B ⟨h0,hc.2⟩ hh
  simp only[hc0,cond_false,h1',Option.bind_some]
  cases (u.2.2.2.2.2.2.1.any fun r=>iEq r.1 c&&ownV u.2.2.2.2.1 r.2 h) with
  | true=>simp only[cond_true,Sum.elim_inr,Bool.or_true]
  | false=>simp only[cond_false,Sum.elim_inl,e1,e2,Option.bind_some,e3,Bool.or_false]
theorem qH4(n:Nat)(x p:Int):qfu n (x,(p,()))=some (upV x p,()):=by
 rw[qsq];rfl
theorem qzL(n:Nat)(m:Msg)(s:Stay)(u:Uni)(K:Okay u)(B:Bnd u)(hh:0≤s.1∧s.1<u.1.1.length)(hn:2000≤n):qjb n (u,(m,(s,())))=some ((qbw u m s).1,((qbw u m s).2,())):=by
 have hgl:=K.gl
 rw[quh]
 obtain ⟨s1,s2⟩:=s
 obtain ⟨j,rfl⟩:=Int.eq_ofNat_of_zero_le hh.1
 have hj:j<u.2.2.2.1.length:=by rw[K.fe];have:=hh.2;show j<_;omega
 unfold qbw
 simp only[qDj n m.2.1 u (by omega) hn,Option.bind_some,qm _ hj,qGo n _ _ u K B (qBe K m.2.1) hh hn,Int.toNat_natCast,List.getElem?_eq_getElem hj,Option.getD_some,qH4]
 cases entV u (payV u.2.2.2.2.2.1 m.2.1).2.1 (j:Int)<;>rfl
theorem qBf(n:Nat)(u:Uni)(K:Okay u)(hn:5000≤n):qgT n (u,())=some ((offL u.1 u.2.1).1,()):=by
 have hl:=K.ms
 have hq:=qvJ u.2.1
 rw[qrX]
 simp only[qDd n u.2.1 K.v.msgs (by omega) (by omega),Option.bind_some,qEJ n u.1 K.v.ch (qgu u.2.1) (fun m hm=>qF2 K.v hm) (by omega) (by omega)]
 rfl
theorem qxH{u:Uni}(V:Vld u.1 u.2.1){m:Msg}(h:m∈(offL u.1 u.2.1).1):m∈u.2.1∧m.1=1∧m∈qgu u.2.1:=by
 have hq:=qmb.2 (qCB.1 (.inl h))
 exact ⟨(qlM.1 hq).1,qyM V.msgs hq,hq⟩
theorem qGp{u:Uni}(V:Vld u.1 u.2.1):(qfh u).Perm (offL u.1 u.2.1).1:=by
 unfold qfh accL
 refine ((qeX _ _).map _).trans ?_
 rw[List.map_map]
 have:(offL u.1 u.2.1).1.map ((fun i=>qlP u.2.1 i)∘fun m=>m.2.1)=(offL u.1 u.2.1).1:=by
  refine (List.map_congr_left fun m hm=>?_).trans (List.map_id _)
  obtain ⟨h1,h2,_⟩:=qxH V hm
  exact qyN V.msgs h1 h2
 show (List.map ((fun i=>qlP u.2.1 i)∘fun m=>m.2.1) (offL u.1 u.2.1).1).Perm _
 rw[this]
end Go.Proofs.YtlmicgmhallkkaaGreatDoor
