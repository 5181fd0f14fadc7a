/- Clubs, plain: the reference's stays, bookings and fees. -/
import Derived.Test.YtlmicgmhallkkaaGreatDoorDk7
import Derived.Test.YtlmicgmhallkkaaGreatDoorDk2
import Derived.Test.YtlmicgmhallkkaaGreatDoorPd
set_option linter.constructorNameAsVariable false
set_option linter.unusedSimpArgs false
set_option linter.unusedVariables false
set_option linter.unusedSectionVars false
namespace Go.Proofs.YtlmicgmhallkkaaGreatDoor
open Go Go.Proofs Go.RowKit
set_option maxHeartbeats 1000000
theorem qBJ(n:Nat)(a:Int)(l:List Int):qiB n ((a::l:List Int),())=Option.bind (qF (Nat.ble (nAdd (0:Nat) (List.length (a::l))) 17592186044416)) fun _=>(some ((List.append [] (a::l)),())):=by kernel_rfl
theorem qEJ(n:Nat):qcE n ([],())=some ([],()):=by kernel_rfl
theorem qEK(n:Nat)(a:Int)(l:List Int):qcE n (a::l,())=qiB n ((a::l:List Int),()):=by kernel_rfl
theorem qEL(n:Nat)(l:List Int)(hl:l.length≤1000):qcE n (l,())=some (l,()):=by
 cases l with
 | nil=>exact qEJ n
 | cons a l =>
  rw[qEK]
  refine (qBJ n a l).trans ?_
  rw[qbL (by rw[Nat.ble_eq];exact Nat.le_trans (Nat.le_of_eq (Nat.zero_add _)) (Nat.le_trans hl (by decide)))]
  rfl
theorem qCq{α:Type}(p:α→Bool):∀(l:List α) (k:Nat) (hk:k<l.length),p l[k]=true→(l.take k).any p=false→List.find? p l=some l[k]
 | [],k,hk,_,_=>absurd hk (Nat.not_lt_zero _)
 | x::l,0,_,a,_=>List.find?_cons_of_pos a
 | x::l,k+1,hk,a,c=>by
  rw[List.take_succ_cons,List.any_cons,Bool.or_eq_false_iff] at c
  rw[List.find?_cons_of_neg (by rw[c.1];decide)]
  exact qCq p l k (Nat.lt_of_succ_lt_succ hk) a c.2
theorem qBK(n:Nat)(i:Int)(u:Uni)(hl:u.2.2.2.2.2.1.length≤1000)(hn:2000≤n):qk5 n (u,(i,()))=some (payV u.2.2.2.2.2.1 i,()):=by
 rw[qsm]
 have h1:=qdL (step:=qjJ n) u.2.2.2.2.2.1 (fun k=>(i,((k:Int),(u,(((0:Int),((0:Int),(0:Int))),()))))) (fun g=>iEq g.1 i) (fun k=>.inr ((u.2.2.2.2.2.1[k]?).getD (0,(0,0)),())) (.inl (i,(((0:Int),((0:Int),(0:Int))),()))) (fun rec k hk=>by
  rw[ql2]
  simp only[qy hk,cond_true,qK _ hk,Option.bind_some,qj (show k<9223372036854775807 by omega),List.getElem?_eq_getElem hk,Option.getD_some]) (fun rec=>by
  rw[ql2]
  simp only[qC,cond_false]) (n:=n) (by omega)
 unfold payV
 rcases h1 with ⟨h1,h2⟩ | ⟨k,hk,h1,h3,h2⟩
 ·rw[List.find?_eq_none.2 (fun x hx=>by have:=List.any_eq_false.1 h1 x hx;simpa using this)]
  show Option.bind (qb n _ (i,(((0:Nat):Int),(u,(((0:Int),((0:Int),(0:Int))),()))))) _=_
  rw[h2];rfl
 ·rw[qCq _ _ k hk h1 h3]
  show Option.bind (qb n _ (i,(((0:Nat):Int),(u,(((0:Int),((0:Int),(0:Int))),()))))) _=_
  rw[h2,List.getElem?_eq_getElem hk];rfl
theorem qEM{u:Uni}(K:Okay u)(B:Bnd u){c h:Int}(hc:0≤c∧c≤u.2.2.1-1)(hh:0≤h∧h<u.1.1.length):∃row v,lat u.2.2.2.2.1 h=some row∧lat row c=some v∧iGt v 0=ownV u.2.2.2.2.1 c h:=by
 obtain ⟨j,rfl⟩:=Int.eq_ofNat_of_zero_le hh.1
 obtain ⟨i,rfl⟩:=Int.eq_ofNat_of_zero_le hc.1
 have hj:j<u.2.2.2.2.1.length:=by rw[K.sh];omega
 have hr:=K.rows _ (List.getElem_mem hj)
 have hi:i<(u.2.2.2.2.1[j]).length:=by omega
 have hb:=(B.ro _ (List.getElem_mem hj)).1 _ (List.getElem_mem hi)
 refine ⟨_,_,qK _ hj,qK _ hi,?_⟩
 unfold ownV
 rw[Int.toNat_natCast,Int.toNat_natCast,List.getElem?_eq_getElem hj,Option.getD_some,List.getElem?_eq_getElem hi,Option.getD_some]
 generalize u.2.2.2.2.1[j][i]=v at *
 by_cases hv:v=0
 ·subst hv;rfl
 ·rw[qgo hv]
  exact decide_eq_true (show v>0 by omega)
theorem qEN(n:Nat)(c h:Int)(u:Uni)(K:Okay u)(B:Bnd u)(hc:-1≤c∧c≤u.2.2.1-1)(hh:0≤h∧h<u.1.1.length)(hn:2000≤n):qi2 n (u,(c,(h,())))=some (entV u c h,()):=by
 have hrl:=K.rl
 rw[qqO]
 unfold entV
 cases hc0:iLt c 0 with
 | true=>simp only[hc0];rfl
 | false =>
  have h0:0≤c:=by unfold iLt at hc0;simpa using hc0
  have h1:=qkG (step:=qfB n) u.2.2.2.2.2.2.1 (fun k=>(c,(h,((k:Int),(u,()))))) (fun r=>iEq r.1 c&&ownV u.2.2.2.2.1 r.2 h) (.inr (true,())) (.inl (c,(h,(u,())))) (fun rec k hk=>by
   have hr:=K.ri _ (List.getElem_mem hk)
   obtain ⟨row,v,e1,e2,e3⟩:=qEM K B hr.2 hh
   rw[qku]
   simp only[qy hk,cond_true,qK _ hk,Option.bind_some,qj (show k<9223372036854775807 by omega),e1,e2,e3]
   cases iEq (u.2.2.2.2.2.2.1[k]).1 c<;>cases ownV u.2.2.2.2.1 (u.2.2.2.2.2.2.1[k]).2 h<;>rfl) (fun rec=>by
   rw[qku]
   simp only[qC,cond_false]) (n:=n) (by omega)
  have h1':qb n (qfB n) (c,(h,((0:Int),(u,()))))=_:=h1
  obtain ⟨row,v,e1,e2,e3⟩:=qEM K B ⟨h0,hc.2⟩ hh
  simp only[hc0,cond_false,h1',Option.bind_some]
  cases (u.2.2.2.2.2.2.1.any fun r=>iEq r.1 c&&ownV u.2.2.2.2.1 r.2 h) with
  | true=>simp only[cond_true,Sum.elim_inr,Bool.or_true]
  | false=>simp only[cond_false,Sum.elim_inl,e1,e2,Option.bind_some,e3,Bool.or_false]
theorem qGq(n:Nat)(x p:Int):qfe n (x,(p,()))=some (upV x p,()):=by
 rw[qrg];rfl
theorem qDe(n:Nat)(m:Msg)(s:Stay)(u:Uni)(K:Okay u)(B:Bnd u)(hh:0≤s.1∧s.1<u.1.1.length)(hn:2000≤n):qiE n (u,(m,(s,())))=some ((qgp u m s).1,((qgp u m s).2,())):=by
 have hgl:=K.gl
 rw[qta]
 obtain ⟨s1,s2⟩:=s
 obtain ⟨j,rfl⟩:=Int.eq_ofNat_of_zero_le hh.1
 have hj:j<u.2.2.2.1.length:=by rw[K.fe];have:=hh.2;show j<_;omega
 unfold qgp
 simp only[qBK n m.2.1 u (by omega) hn,Option.bind_some,qK _ hj,qEN n _ _ u K B (qzN K m.2.1) hh hn,Int.toNat_natCast,List.getElem?_eq_getElem hj,Option.getD_some,qGq]
 cases entV u (payV u.2.2.2.2.2.1 m.2.1).2.1 (j:Int)<;>rfl
theorem qEO(n:Nat)(u:Uni)(K:Okay u)(hn:5000≤n):qi3 n (u,())=some ((offL u.1 u.2.1).1,()):=by
 have hl:=K.ms
 have hq:=quB u.2.1
 rw[qqP]
 simp only[qBG n u.2.1 K.v.msgs (by omega) (by omega),Option.bind_some,qC7 n u.1 K.v.ch (qfY u.2.1) (fun m hm=>qEr K.v hm) (by omega) (by omega)]
 rfl
theorem qCr{u:Uni}(V:Vld u.1 u.2.1){m:Msg}(h:m∈(offL u.1 u.2.1).1):m∈u.2.1∧m.1=1∧m∈qfY u.2.1:=by
 have hq:=qlr.2 (qA7.1 (.inl h))
 exact ⟨(qk9.1 hq).1,qxo V.msgs hq,hq⟩
theorem qEP{u:Uni}(V:Vld u.1 u.2.1):(qb5 u).Perm (offL u.1 u.2.1).1:=by
 unfold qb5 accL
 refine ((qfl _ _).map _).trans ?_
 rw[List.map_map]
 have:(offL u.1 u.2.1).1.map ((fun i=>qmV u.2.1 i)∘fun m=>m.2.1)=(offL u.1 u.2.1).1:=by
  refine (List.map_congr_left fun m hm=>?_).trans (List.map_id _)
  obtain ⟨h1,h2,_⟩:=qCr V hm
  exact qBe V.msgs h1 h2
 show (List.map ((fun i=>qmV u.2.1 i)∘fun m=>m.2.1) (offL u.1 u.2.1).1).Perm _
 rw[this]
theorem qGr{u:Uni}{hut:Int}{a b:List Msg}(h:a.Perm b):incV u hut a=incV u hut b:=by
 unfold incV
 exact qGm (h.map _)
abbrev uX(u:Uni):Chn×(List Msg×(Int×(List Int×(List (List Int)×(List qjs×(List qsV×(List Work×(Int×(Int×(Int×(Int×Unit))))))))))) :=
 (u.1,(u.2.1,(u.2.2.1,(u.2.2.2.1,(u.2.2.2.2.1,(u.2.2.2.2.2.1,(u.2.2.2.2.2.2.1,(u.2.2.2.2.2.2.2.1,(u.2.2.2.2.2.2.2.2.1,(u.2.2.2.2.2.2.2.2.2.1,(u.2.2.2.2.2.2.2.2.2.2.1,(u.2.2.2.2.2.2.2.2.2.2.2,()))))))))))))
theorem qHu(n:Nat)(u:Uni)(K:Okay u)(B:Bnd u)(bs:List Msg)(i:Nat)(m:Msg)(hi:bs[i]?=some m)(hm:m∈u.2.1)(h1:m.1=1)(hut:Int)(hn:2000≤n):∀(Y A:List Stay) (n':Nat) (sum:Int),m.2.2.2.2=A++Y→0≤sum→sum+1000000000000*(Y.length:Int)≤1000000000000000→Y.length<n' →
  qb n' (qgm n) (hut,(sum,(bs,((i:Int),((A.length:Int),uX u)))))=some (hut,(sum+incS u hut m Y,(bs,((i:Int),uX u)))):=by
 have hst:=K.v.st m hm
 intro Y
 induction Y with
 | nil =>
  intro A n' sum e h0 h2 hn'
  obtain ⟨n',rfl⟩:∃j,n'=j+1:=⟨n'-1,by simp at hn';omega⟩
  rw[List.append_nil] at e
  rw[qe,qlg]
  simp only[qGM hi,Option.bind_some,e,qC,cond_false]
  simp[incS]
 | cons x Y ih =>
  intro A n' sum e h0 h2 hn'
  obtain ⟨n',rfl⟩:∃j,n'=j+1:=⟨n'-1,by simp at hn';omega⟩
  simp only[List.length_cons] at h2 hn'
  have hlen:m.2.2.2.2.length=A.length+(Y.length+1):=by rw[e,List.length_append,List.length_cons]
  have hlt:A.length<m.2.2.2.2.length:=by omega
  have hx:x∈m.2.2.2.2:=by rw[e];simp
  have hlat:lat m.2.2.2.2 (A.length:Int)=some x:=by rw[e];exact latA A Y x rfl
  have hin:=qy0 K.v hm h1 hx
  have hbd:=qxp K B hm h1 hx
  have hsp:=qDe n m x u K B hin hn
  rw[qe,qlg]
  simp only[qGM hi,Option.bind_some,qy hlt,cond_true,hlat,qj (show A.length<9223372036854775807 by omega)]
  have i1:=fun s h3 h4=>ih (A++[x]) n' s (by rw[e];simp) h3 h4 (by omega)
  simp only[List.length_append] at i1
  have e1:incS u hut m (x::Y)=cond (iEq x.1 hut) (qgp u m x).1 0+incS u hut m Y:=by unfold incS;rw[List.map_cons,List.sum_cons]
  rw[e1]
  cases he:iEq x.1 hut with
  | true =>
   simp only[cond_true]
   rw[show qiE n ((u.1,(u.2.1,(u.2.2.1,(u.2.2.2.1,(u.2.2.2.2.1,(u.2.2.2.2.2.1,(u.2.2.2.2.2.2.1,(u.2.2.2.2.2.2.2.1,(u.2.2.2.2.2.2.2.2.1,(u.2.2.2.2.2.2.2.2.2.1,(u.2.2.2.2.2.2.2.2.2.2.1,u.2.2.2.2.2.2.2.2.2.2.2))))))))))),(m,(x,())))=_ from hsp]
   simp only[Option.bind_some]
   rw[show iW (iAdd sum (qgp u m x).1)=sum+(qgp u m x).1 from qbd (by unfold iAdd;omega) (by unfold iAdd;omega),← Int.add_assoc]
   exact i1 (sum+(qgp u m x).1) (by omega) (by omega)
  | false =>
   simp only[cond_false,Int.zero_add]
   exact i1 sum h0 (by omega)
theorem qHv(n:Nat)(u:Uni)(K:Okay u)(B:Bnd u)(bs:List Msg)(hb:∀m,m∈bs→m∈u.2.1∧m.1=1)(hbl:bs.length≤9)(hut:Int)(hn:2000≤n):∀(Y A:List Msg) (n':Nat) (sum:Int),bs=A++Y→0≤sum→sum+20000000000000*(Y.length:Int)≤900000000000000→Y.length<n' →
  qb n' (qgn n) (hut,(sum,(bs,((A.length:Int),uX u))))=some (sum+incV u hut Y,()):=by
 intro Y
 induction Y with
 | nil =>
  intro A n' sum e h0 h2 hn'
  obtain ⟨n',rfl⟩:∃j,n'=j+1:=⟨n'-1,by simp at hn';omega⟩
  rw[List.append_nil] at e
  rw[qe,qlh]
  simp only[e,qC,cond_false]
  simp[incV]
 | cons x Y ih =>
  intro A n' sum e h0 h2 hn'
  obtain ⟨n',rfl⟩:∃j,n'=j+1:=⟨n'-1,by simp at hn';omega⟩
  simp only[List.length_cons] at h2 hn'
  have hlen:bs.length=A.length+(Y.length+1):=by rw[e,List.length_append,List.length_cons]
  have hlt:A.length<bs.length:=by omega
  have hx:=hb x (by rw[e];simp)
  have hst:=K.v.st x hx.1
  have hat:bs[A.length]?=some x:=by rw[e];exact getA A Y x rfl
  have i1:=qHu n u K B bs A.length x hat hx.1 hx.2 hut hn x.2.2.2.2 [] n sum rfl h0 (by omega) (by omega)
  have hbd:=qy2 K B hut hx.1 hx.2 x.2.2.2.2 fun s hs=>hs
  have i1':qb n (qgm n) (hut,(sum,(bs,((A.length:Int),((0:Int),uX u)))))=_:=i1
  rw[qe,qlh]
  simp only[qy hlt,cond_true,i1',Option.bind_some,qj (show A.length<9223372036854775807 by omega)]
  have e1:incV u hut (x::Y)=incS u hut x x.2.2.2.2+incV u hut Y:=by unfold incV;rw[List.map_cons,List.sum_cons]
  rw[e1,← Int.add_assoc]
  have:=ih (A++[x]) n' (sum+incS u hut x x.2.2.2.2) (by rw[e];simp) (by omega) (by omega) (by omega)
  rw[List.length_append] at this
  exact this
theorem qv2(n:Nat)(u:Uni)(K:Okay u)(B:Bnd u)(hut f:Int)(hh:0≤hut∧hut<u.1.1.length)(hf:0≤f∧f≤100000)(hn:5000≤n):qdr n (u,(hut,(f,())))=some (incV (setF u hut f) hut (qb5 u),()):=by
 obtain ⟨j,rfl⟩:=Int.eq_ofNat_of_zero_le hh.1
 have hj:j<u.2.2.2.1.length:=by rw[K.fe];omega
 have hfe:=K.fe
 have hhu:=K.v.hu
 have hol:=qxn u.1 u.2.1
 have hms:=K.ms
 have i0:=qHv n (setF u (j:Int) f) (qxr K _ _) (qy1 B _ hf) (offL u.1 u.2.1).1 (fun m hm=>by have:=qCr K.v hm;exact ⟨this.1,this.2.1⟩) (by omega) (j:Int) (by omega) (offL u.1 u.2.1).1 [] n 0 rfl (Int.le_refl _) (by omega) (by omega)
 have i0':qb n (qgn n) ((j:Int),((0:Int),((offL u.1 u.2.1).1,((0:Int),(u.1,(u.2.1,(u.2.2.1,(u.2.2.2.1.set j f,(u.2.2.2.2.1,(u.2.2.2.2.2.1,(u.2.2.2.2.2.2.1,(u.2.2.2.2.2.2.2.1,(u.2.2.2.2.2.2.2.2.1,(u.2.2.2.2.2.2.2.2.2.1,(u.2.2.2.2.2.2.2.2.2.2.1,(u.2.2.2.2.2.2.2.2.2.2.2,()))))))))))))))))=_:=i0
 rw[qrZ]
 simp only[qbL (show Nat.ble (nAdd 0 u.2.2.2.1.length) 17592186044416=true by rw[Nat.ble_eq];unfold nAdd;omega),Option.bind_some,show List.append [] u.2.2.2.1=u.2.2.2.1 from rfl,qK _ hj,Int.toNat_natCast,List.getElem?_eq_getElem hj,qEO n u K hn,i0',Int.zero_add]
 rw[qGr (qEP K.v).symm]
end Go.Proofs.YtlmicgmhallkkaaGreatDoor
