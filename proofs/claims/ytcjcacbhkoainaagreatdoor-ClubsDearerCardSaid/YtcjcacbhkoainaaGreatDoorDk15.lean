/- Clubs: with one more right no price becomes higher, with a greater fee none lower: the law. -/
import Derived.Test.YtcjcacbhkoainaaGreatDoorDk14
set_option linter.constructorNameAsVariable false
set_option linter.unusedSimpArgs false
set_option linter.unusedVariables false
set_option linter.unusedSectionVars false
namespace Go.Proofs.YtcjcacbhkoainaaGreatDoor
open Go Go.Proofs Go.RowKit
set_option maxHeartbeats 1000000
abbrev qEu(u:Uni):Chn×(List Msg×(Int×(List Int×(List (List Int)×(List qjA×(List qlY×(List Work×(Int×(Int×(Int×(Int×Unit))))))))))):=(u.1,(u.2.1,(u.2.2.1,(u.2.2.2.1,(u.2.2.2.2.1,(u.2.2.2.2.2.1,(u.2.2.2.2.2.2.1,(u.2.2.2.2.2.2.2.1,(u.2.2.2.2.2.2.2.2.1,(u.2.2.2.2.2.2.2.2.2.1,(u.2.2.2.2.2.2.2.2.2.2.1,(u.2.2.2.2.2.2.2.2.2.2.2,()))))))))))))
theorem qEa(n:Nat)(u:Uni)(hs:Small11 u)(hn:2000≤n):qg8 n (u,())=some (qEu u):=by
 have a1:=hs.hu;have a2:=hs.ms;have a3:=hs.fe;have a4:=hs.sh;have a5:=hs.gu;have a6:=hs.ri;have a7:=hs.wo
 rw[qqm]
 simp only[qD2 n u.1 (by omega),qD1 n u.2.1 (by omega) (fun m hm=>by have:=hs.st m hm;omega) hn,Option.bind_some]
 rw[qdI (by rw[Nat.ble_eq];show 0+u.2.2.2.1.length≤_;omega)]
 simp only[Option.bind_some]
 have h:=qlX (step:=qiK n) u.2.2.2.2.1 (fun k (b:List (List Int))=>((k:Int),(u,((([],(0:Int)),([],((0:Int),([],([],([],([],([],((0:Int),((0:Int),((0:Int),(0:Int)))))))))))),(u.1,(u.2.1,(u.2.2.1,(List.append [] u.2.2.2.1,(b,(u.2.2.2.2.2.1,(u.2.2.2.2.2.2.1,(u.2.2.2.2.2.2.2.1,(u.2.2.2.2.2.2.2.2.1,(u.2.2.2.2.2.2.2.2.2.1,(u.2.2.2.2.2.2.2.2.2.2.1,(u.2.2.2.2.2.2.2.2.2.2.2,())))))))))))))))) (fun b r=>b++[r]) [] (fun b=>(u,((([],(0:Int)),([],((0:Int),([],([],([],([],([],((0:Int),((0:Int),((0:Int),(0:Int)))))))))))),(u.1,(u.2.1,(u.2.2.1,(List.append [] u.2.2.2.1,(b,(u.2.2.2.2.2.1,(u.2.2.2.2.2.2.1,(u.2.2.2.2.2.2.2.1,(u.2.2.2.2.2.2.2.2.1,(u.2.2.2.2.2.2.2.2.2.1,(u.2.2.2.2.2.2.2.2.2.2.1,(u.2.2.2.2.2.2.2.2.2.2.2,()))))))))))))))) (fun rec k b hk hb=>by
  have hb2:b=u.2.2.2.2.1.take k:=by
   have:=qnM (fun m:List Int=>m) (u.2.2.2.2.1.take k) []
   rw[hb,this];simp
  have hbl:b.length≤k:=by rw[hb2];simp;omega
  have hst:=hs.rl _ (List.getElem_mem hk)
  rw[qkD]
  simp only[qK hk,cond_true,qS _ hk,Option.bind_some,qy (show k<9223372036854775807 by omega)]
  rw[qdI (by rw[Nat.ble_eq];unfold nAdd;omega)]
  simp only[Option.bind_some]
  rw[qdI (by rw[Nat.ble_eq];unfold nAdd;omega)]
  rfl) (fun rec b=>by
  rw[qkD]
  simp only[qQ,cond_false]) (n:=n) (by omega)
 have h2:=qnM (fun m:List Int=>m) u.2.2.2.2.1 []
 rw[h2] at h
 rw[show ((0:Int),(u,((([],(0:Int)),([],((0:Int),([],([],([],([],([],((0:Int),((0:Int),((0:Int),(0:Int)))))))))))),(u.1,(u.2.1,(u.2.2.1,(List.append [] u.2.2.2.1,(([]:List (List Int)),(u.2.2.2.2.2.1,(u.2.2.2.2.2.2.1,(u.2.2.2.2.2.2.2.1,(u.2.2.2.2.2.2.2.2.1,(u.2.2.2.2.2.2.2.2.2.1,(u.2.2.2.2.2.2.2.2.2.2.1,(u.2.2.2.2.2.2.2.2.2.2.2,())))))))))))))))=(((0:Nat):Int),(u,(((([]:List (Int×Int)),(0:Int)),(([]:List Msg),((0:Int),(([]:List Int),(([]:List (List Int)),(([]:List qjA),(([]:List qlY),(([]:List Work),((0:Int),((0:Int),((0:Int),(0:Int)))))))))))),(u.1,(u.2.1,(u.2.2.1,(List.append [] u.2.2.2.1,(([]:List (List Int)),(u.2.2.2.2.2.1,(u.2.2.2.2.2.2.1,(u.2.2.2.2.2.2.2.1,(u.2.2.2.2.2.2.2.2.1,(u.2.2.2.2.2.2.2.2.2.1,(u.2.2.2.2.2.2.2.2.2.2.1,(u.2.2.2.2.2.2.2.2.2.2.2,()))))))))))))))) from rfl,h]
 simp only[Option.bind_some]
 rw[qdI (by rw[Nat.ble_eq];show 0+u.2.2.2.2.2.1.length≤_;omega)]
 simp only[Option.bind_some]
 rw[qdI (by rw[Nat.ble_eq];show 0+u.2.2.2.2.2.2.1.length≤_;omega)]
 simp only[Option.bind_some]
 rw[qdI (by rw[Nat.ble_eq];show 0+u.2.2.2.2.2.2.2.1.length≤_;omega)]
 simp[qEu]
theorem qxW{u:Uni}(h:chkU u=0):u.2.2.2.2.2.2.1.length≤12:=by
 obtain ⟨_,h2⟩:=qpI h
 unfold uniB at h2
 simp only[Bool.and_eq_true,decide_eq_true_eq,List.all_eq_true] at h2
 omega
theorem qBb{u:Uni}(hs:Small11 u)(h:chkU u=0)(r:qlY):Small11 (qe7 u r):=⟨hs.hu,hs.ln,hs.st,hs.fe,hs.sh,hs.rl,hs.gu,(show (u.2.2.2.2.2.2.1++[r]).length≤14 by rw[List.length_append,List.length_singleton];have:=qxW h;omega),hs.wo⟩
theorem qCB(n:Nat)(u:Uni)(q:Int×(Int×(Int×qlY)))(hl:u.2.1.length≤9223372036854775807)(hl2:u.2.2.2.2.1.length≤9223372036854775807)(hn:u.2.1.length+u.2.2.2.2.1.length+9000≤n):qfn n (u,(q,()))=some (true,()):=by
 have hw:=qFd n (by omega)
 obtain ⟨i,hut,more,r⟩:=q
 rw[qnX,qD6 n u hl hl2 (by omega)]
 simp only[Option.bind_some,hw]
 cases hr:!qqo u&&decide (chkU u=0) with
 | false=>rfl
 | true =>
 rw[Bool.and_eq_true,Bool.not_eq_true',decide_eq_true_eq] at hr
 have hs:=quk hr.1
 have h:=hr.2
 have K:=qjh hs h
 have B:=qsb h
 simp only[Bool.not_true,cond_false]
 cases c1:iLt hut 0 with
 | true=>rfl
 | false =>
 cases c2:iGe hut (u.2.2.2.1.length:Int) with
 | true=>rfl
 | false =>
 cases c3:iLt more 0 with
 | true=>rfl
 | false =>
 cases c4:iGt more 100000 with
 | true=>rfl
 | false =>
 have d1:¬hut<0:=of_decide_eq_false c1
 have d2:¬hut≥(u.2.2.2.1.length:Int):=of_decide_eq_false c2
 have d3:¬more<0:=of_decide_eq_false c3
 have d4:¬more>100000:=of_decide_eq_false c4
 obtain ⟨j,rfl⟩:=Int.eq_ofNat_of_zero_le (show 0≤hut by omega)
 have hj:j<u.2.2.2.1.length:=by omega
 have hfe:=B.fe _ (List.getElem_mem hj)
 have hm:iMin (100000:Int) (iW (iAdd u.2.2.2.1[j] more))=min 100000 (u.2.2.2.1[j]+more):=by
  rw[show iW (iAdd u.2.2.2.1[j] more)=u.2.2.2.1[j]+more from qZ (by unfold iAdd;omega) (by unfold iAdd;omega)]
  unfold iMin
  split<;>omega
 have hgd:(u.2.2.2.1[((j:Nat):Int).toNat]?).getD 0=u.2.2.2.1[j]:=by rw[Int.toNat_natCast,List.getElem?_eq_getElem hj];rfl
 have hri:=qxW h
 have hs':=qBb hs h r
 have hd:=qFf hs h (hut:=(j:Int)) (f:=min 100000 (u.2.2.2.1[j]+more)) (by omega) (by rw[hgd];omega) (by omega) (by omega) i
 have hdp:=qvG n (setF u (j:Int) (min 100000 (u.2.2.2.1[j]+more))) i (qum hs _ _) (qjh (qum hs _ _) (quF h (by omega))) (quF h (by omega)) (by omega)
 simp only[cond_false,qEa n u hs (by omega),Option.bind_some,qS u.2.2.2.1 hj,Int.toNat_natCast,List.getElem?_eq_getElem hj,qvG n u i hs K h (by omega),hm]
 rw[qdI (by rw[Nat.ble_eq];unfold nAdd;omega)]
 simp only[Option.bind_some]
 have hde:qhk n ((u.1,(u.2.1,(u.2.2.1,(List.set u.2.2.2.1 j (min 100000 (u.2.2.2.1[j]+more)),(u.2.2.2.2.1,(u.2.2.2.2.2.1,(u.2.2.2.2.2.2.1,(u.2.2.2.2.2.2.2.1,(u.2.2.2.2.2.2.2.2.1,(u.2.2.2.2.2.2.2.2.2.1,(u.2.2.2.2.2.2.2.2.2.2.1,u.2.2.2.2.2.2.2.2.2.2.2))))))))))),(i,()))=some (qdG (setF u (j:Int) (min 100000 (u.2.2.2.1[j]+more))) i):=hdp
 rw[hde]
 have hck:qfT n ((u.1,(u.2.1,(u.2.2.1,(u.2.2.2.1,(u.2.2.2.2.1,(u.2.2.2.2.2.1,(List.append u.2.2.2.2.2.2.1 [r],(u.2.2.2.2.2.2.2.1,(u.2.2.2.2.2.2.2.2.1,(u.2.2.2.2.2.2.2.2.2.1,(u.2.2.2.2.2.2.2.2.2.2.1,u.2.2.2.2.2.2.2.2.2.2.2))))))))))),())=some (chkU (qe7 u r),()):=qs6 n (qe7 u r) hs' (by omega)
 simp only[Option.bind_some,hck]
 generalize qdG (setF u (j:Int) (min 100000 (u.2.2.2.1[j]+more))) i=pd at *
 have hfr:chkU (qe7 u r)=0→qhk n ((u.1,(u.2.1,(u.2.2.1,(u.2.2.2.1,(u.2.2.2.2.1,(u.2.2.2.2.2.1,(List.append u.2.2.2.2.2.2.1 [r],(u.2.2.2.2.2.2.2.1,(u.2.2.2.2.2.2.2.2.1,(u.2.2.2.2.2.2.2.2.2.1,(u.2.2.2.2.2.2.2.2.2.2.1,u.2.2.2.2.2.2.2.2.2.2.2))))))))))),(i,()))=some (qdG (qe7 u r) i):=fun hc=>qvG n (qe7 u r) i hs' (qjh hs' hc) hc (by omega)
 have hfree:chkU (qe7 u r)=0→_:=fun hc=>qFg (r:=r) hs h hs' hc i
 generalize qdG (qe7 u r) i=pf at *
 generalize qdG u i=pu at *
 rw[qdY hd.2.2,qdY hd.2.1,show iGt pu.1 pd.1=false from decide_eq_false (by omega)]
 simp only[cond_false]
 by_cases hc:chkU (qe7 u r)=0
 ·have hf:=hfree hc
  rw[qdY hc,hfr hc]
  simp only[cond_false,Option.bind_some,qcv hf.2.2.symm,qcv hf.2.1.symm,cond_true,show iLe pf.1 pu.1=true from decide_eq_true hf.1]
 ·rw[qi7 hc]
  rfl
end Go.Proofs.YtcjcacbhkoainaaGreatDoor
