/- Texts Dp17, Dp18, Dc0, Dc1, Dc2, Dc3 in one. -/
import Derived.Test.YtlmicgmhallkkaaGreatDoorPc
import Derived.Test.YtlmicgmhallkkaaGreatDoorQa
/- Beds, plain: Check of whatever there is. -/
set_option linter.constructorNameAsVariable false
set_option linter.unusedSimpArgs false
set_option linter.unusedVariables false
set_option linter.unusedSectionVars false
namespace Go.Proofs.YtlmicgmhallkkaaGreatDoor
open Go Go.Proofs Go.RowKit
set_option maxHeartbeats 1000000
def qxc(x y:Msg):Bool:=decide (y.2.1=x.2.1)&&decide (y.1=x.1)
def adjK:List Msg→Bool
 | x::y::l=>qxc x y||adjK (y::l)
 | _=>false
theorem qAo:∀(q:List Msg),adjK q=true↔∃i,∃h:i+1<q.length,qxc q[i] q[i+1]=true
 | []=>by simp[adjK]
 | [x]=>by simp[adjK]
 | x::y::l=>by
  unfold adjK
  rw[Bool.or_eq_true,qAo (y::l)]
  constructor
  ·rintro (h | ⟨i,h1,h2⟩)
   ·exact ⟨0,by simp,h⟩
   ·exact ⟨i+1,by simpa using h1,by simpa using h2⟩
  ·rintro ⟨i,h1,h2⟩
   cases i with
   | zero=>exact .inl h2
   | succ i=>exact .inr ⟨i,by simpa using h1,by simpa using h2⟩
theorem qFY(n:Nat)(q:List Msg)(hl:q.length≤1000):∀(B A:List Msg) (p:Msg) (n':Nat),q=A++p::B→B.length<n' →
  qb n' (qnM n) (q,(q,((q.length:Int),(((A.length+1:Nat):Int),()))))=some (cond (adjK (p::B)) (.inr (true,())) (.inl ())):=by
 intro B
 induction B with
 | nil =>
  intro A p n' hq hn
  obtain ⟨n',rfl⟩:∃m,n'=m+1:=⟨n'-1,by omega⟩
  have e:A.length+1=q.length:=by rw[hq];simp
  rw[qc,qgy]
  simp only[e,ql,cond_false]
  rfl
 | cons y B ih =>
  intro A p n' hq hn
  simp only[List.length_cons] at hn
  obtain ⟨n',rfl⟩:∃m,n'=m+1:=⟨n'-1,by omega⟩
  have e:A.length+1<q.length:=by rw[hq];simp
  have e1:q[A.length+1]?=some y:=by rw[hq];exact app1 _ _ _ _
  have e0:q[A.length]?=some p:=by rw[hq];exact app0 _ _ _ _
  have ih':=ih (A++[p]) y n' (by rw[hq];simp) (by omega)
  rw[List.length_append,List.length_singleton] at ih'
  rw[qc,qgy]
  simp only[qk e,cond_true,qfj,e1,qs5,qpm (show A.length<9223372036854775807 by omega),e0,Option.bind_some,qg (show A.length+1<9223372036854775807 by omega)]
  unfold adjK qxc
  by_cases h1:y.2.1=p.2.1
  ·rw[qbn h1]
   by_cases h2:y.1=p.1
   ·rw[qbn h2];simp[h1,h2]
   ·rw[qdT h2];simp only[cond_true,cond_false,h2,decide_false,Bool.and_false,Bool.false_or];exact ih'
  ·rw[qdT h1];simp only[cond_false,h1,decide_false,Bool.false_and,Bool.false_or];exact ih'
theorem qFZ(n:Nat)(q:List Msg)(hl:q.length≤1000)(hn:2000≤n):qpZ n (q,())=some (adjK q,()):=by
 rw[qtR]
 obtain ⟨n,rfl⟩:∃m,n=m+1:=⟨n-1,by omega⟩
 cases q with
 | nil =>
  rw[qc,qgy]
  rfl
 | cons p B =>
  have h:=qFY (n+1) (p::B) hl B [] p n rfl (by simp at hl;omega)
  simp only[List.length_nil,Nat.zero_add] at h
  have e:(0:Int)<((p::B).length:Int):=by rw[List.length_cons];omega
  rw[qc,qgy]
  simp only[show iLt 0 ((p::B).length:Int)=true from decide_eq_true e,cond_true,qyH,Option.bind_some,show iGt 0 0=false from rfl,cond_false]
  rw[show iW (iAdd 0 1)=((1:Nat):Int) from rfl,h]
  cases adjK (p::B)<;>rfl
theorem qEH{l:List Msg}(hk:∀m,m∈l→m.1=1∨m.1=2):adjK (qcg l)=qi6 l:=by
 have hs:(qcg l).Pairwise (fun a b=>key1 a≤key1 b):=by
  have h1:=qs7 (fun x y=>decide (cmpM x y<0)) key1 l fun x y hx hy=>by
   have:=qCA (hk x hx) (hk y hy)
   simpa using this
  exact h1.sublist (qxa _)
 have hadj:=qs6 (qkF (fun x y=>decide (cmpM x y<0)) l)
 have hkd:∀m,m∈qcg l→m.1=1∨m.1=2:=fun m hm=>hk m (qcK.1 hm)
 cases hc:qi6 l with
 | false =>
  rw[← Bool.not_eq_true]
  intro h
  obtain ⟨i,h1,h2⟩:=(qAo _).1 h
  unfold qxc at h2
  simp only[Bool.and_eq_true,decide_eq_true_eq] at h2
  exact qAf _ hadj i h1 (qp6 hc _ _ (qcK.1 (List.getElem_mem _)) (qcK.1 (List.getElem_mem _)) h2.1 h2.2)
 | true =>
  have hne:¬∀x y,x∈l→y∈l→x.2.1=y.2.1→x.1=y.1→x=y:=fun h=>by rw[qA8 h] at hc;cases hc
  have:∃x y,x∈l∧y∈l∧x.2.1=y.2.1∧x.1=y.1∧x≠y:=by
   refine Classical.byContradiction fun h=>hne fun x y hx hy h1 h2=>Classical.byContradiction fun h3=>h ⟨x,y,hx,hy,h1,h2,h3⟩
  obtain ⟨x,y,hx,hy,h1,h2,h3⟩:=this
  have key:∀i j (hi:i<(qcg l).length) (hj:j<(qcg l).length),i<j→key1 (qcg l)[i]=key1 (qcg l)[j]→adjK (qcg l)=true:=fun i j hi hj hij e=>by
   rw[List.pairwise_iff_getElem] at hs
   have e1:=hs i (i+1) hi (by omega) (by omega)
   have e2:key1 (qcg l)[i+1]≤key1 (qcg l)[j]:=by
    rcases Nat.lt_or_ge (i+1) j with h | h
    ·exact hs (i+1) j (by omega) hj h
    ·have:j=i+1:=by omega
     subst this;exact Int.le_refl _
   refine (qAo _).2 ⟨i,by omega,?_⟩
   have k1:=hkd (qcg l)[i] (List.getElem_mem _)
   have k2:=hkd (qcg l)[i+1] (List.getElem_mem _)
   unfold key1 at e e1 e2
   unfold qxc
   simp only[Bool.and_eq_true,decide_eq_true_eq]
   omega
  obtain ⟨i,hi,ei⟩:=List.mem_iff_getElem.1 (qcK.2 hx)
  obtain ⟨j,hj,ej⟩:=List.mem_iff_getElem.1 (qcK.2 hy)
  have ek:key1 (qcg l)[i]=key1 (qcg l)[j]:=by rw[ei,ej];unfold key1;omega
  rcases Nat.lt_trichotomy i j with h | h | h
  ·exact key i j hi hj h ek
  ·subst h;exact absurd (ei.symm.trans ej) h3
  ·exact key j i hj hi h ek.symm
structure Near (c:Chn) (l:List Msg):Prop where
 st:∀m,m∈l→m.2.2.2.2.length≤20
 hu:c.1.length≤20
 ln:l.length≤9∨(40<l.length∧l.length≤60)
theorem qF0{c:Chn}{l:List Msg}(h:farB c l=false):Near c l:=by
 obtain ⟨h1,h2⟩:=qEz h
 refine ⟨h1,h2,?_⟩
 unfold farB at h
 simp only[Bool.or_eq_false_iff,Bool.and_eq_false_iff,decide_eq_false_iff_not] at h
 omega
theorem qF1(n:Nat)(c:Chn)(l:List Msg)(V:Near c l)(hn:2000≤n):qiW n (c,(l,()))=some (chkN c l,()):=by
 have hu:=V.hu
 have hs:∀z,z∈l→z.2.2.2.2.length≤1000:=fun z hz=>by have:=V.st z hz;omega
 rw[qtS,qIm n c (by omega) hn]
 unfold chkN
 cases hc:qc9 c with
 | false=>rfl
 | true =>
  obtain ⟨h1,h2,h3,h4⟩:=qrC hc
  simp only[Option.bind_some,Bool.not_true,cond_false,cond_true]
  rw[qnv]
  by_cases hl:l.length≤40
  ·have hl9:l.length≤9:=by rcases V.ln with h | h<;>omega
   obtain ⟨u,hu⟩:=qu1 n c l (by omega) (by omega) (by omega) (by omega) hs hn
   have c1:iGt (l.length:Int) 40=false:=decide_eq_false (by omega)
   simp only[c1,cond_false,hu,Option.bind_some,hl,decide_true,Bool.and_true]
   rw[show (l.any fun m=>!mesB c m) = !l.all (mesB c) by simp[List.all_eq_not_any_not]]
   cases hm:l.all (mesB c) with
   | false=>rfl
   | true =>
    have hk:∀m,m∈l→m.1=1∨m.1=2:=fun m h=>by rw[List.all_eq_true] at hm;exact (qAk (hm m h)).1
    simp only[Bool.not_true,cond_false,qui n l (by omega) hs hn,Option.bind_some,qFZ n (qcg l) (by have:=qrB l;omega) hn,qEH hk,cond_true]
    cases qi6 l<;>rfl
  ·have c1:iGt (l.length:Int) 40=true:=decide_eq_true (by omega)
   simp only[c1,cond_true,hl,decide_false,Bool.and_false,cond_false]
   rfl
def qrc(c:Chn)(taken:List Msg)(m:Msg)(s:Spot):Bool:=decide (m.2.2.2.1-(qp7 c s.1-qem taken s.1 s.2)>0)
def qxC(c:Chn)(taken:List Msg)(m:Msg)(s:Spot):Int×(Int×(Int×Unit)):=(s.1,(s.2,(m.2.2.2.1-(qp7 c s.1-qem taken s.1 s.2),())))
theorem qHN(n:Nat)(c:Chn)(hc:qc9 c=true)(taken:List Msg)(ht:∀x,x∈taken→qtX x)(htl:taken.length≤500)(m:Msg)(hp:0≤m.2.2.2.1∧m.2.2.2.1≤1000)(i:Nat)(s:Stay)(hh:0≤s.1∧s.1≤(c.1.length:Int)-1)(hhi:s.2.2≤1000)(hn:2000≤n):∀(k:Nat) (t:Int) (n':Nat),-1000≤t→t+k=s.2.2+1→k<n' →
  qb n' (qkj n) (taken,((i:Int),(t,(c,(m,(s,()))))))=match (qgx s.1 t k).find? (qrc c taken m) with
   | some z=>some (.inr (qxC c taken m z))
   | none=>some (.inl (taken,((i:Int),(c,(m,()))))):=by
 obtain ⟨y,e1,e2,e3⟩:=qw9 hc (s:=(s.1,0)) hh
 unfold hutB at e2
 simp only[Bool.and_eq_true,qca] at e2
 intro k
 induction k with
 | zero =>
  intro t n' h1 h2 h3
  obtain ⟨n',rfl⟩:∃m,n'=m+1:=⟨n'-1,by omega⟩
  rw[qc,qmL]
  rw[show iLe t s.2.2=false from decide_eq_false (by omega)]
  rfl
 | succ k ih =>
  intro t n' h1 h2 h3
  obtain ⟨n',rfl⟩:∃m,n'=m+1:=⟨n'-1,by omega⟩
  have ih':=ih (t+1) n' (by omega) (by omega) (by omega)
  have hnd:=qCC ht s.1 t
  have hnd2:qem taken s.1 t≤250000000:=by
   have:(500000:Int)*(taken.length:Int)≤500000*500:=by omega
   omega
  have eb:qp7 c s.1=y.1:=e3
  rw[qc,qmL]
  rw[show iLe t s.2.2=true from decide_eq_true (by omega)]
  simp only[cond_true,show lat c.1 s.1=some y from e1,Option.bind_some,qFW n taken s.1 t ht htl hn]
  rw[show iW (iSub y.1 (qem taken s.1 t))=y.1-qem taken s.1 t from qbm (by unfold iSub;omega) (by unfold iSub;omega)]
  unfold qgx
  rw[List.find?_cons]
  have hP:qrc c taken m (s.1,t)=decide (m.2.2.2.1-(y.1-qem taken s.1 t)>0):=by unfold qrc;rw[show qp7 c (s.1,t).1=y.1 from eb]
  by_cases h:y.1-qem taken s.1 t<m.2.2.2.1
  ·rw[show iLt (y.1-qem taken s.1 t) m.2.2.2.1=true from decide_eq_true h,hP,decide_eq_true (by omega)]
   simp only[cond_true]
   rw[show iW (iSub m.2.2.2.1 (y.1-qem taken s.1 t))=m.2.2.2.1-(y.1-qem taken s.1 t) from qbm (by unfold iSub;omega) (by unfold iSub;omega)]
   unfold qxC
   rw[show qp7 c (s.1,t).1=y.1 from eb]
  ·rw[show iLt (y.1-qem taken s.1 t) m.2.2.2.1=false from decide_eq_false h,hP,decide_eq_false (by omega)]
   simp only[cond_false]
   rw[show iW (iAdd t 1)=t+1 from qbm (by unfold iAdd;omega) (by unfold iAdd;omega)]
   exact ih'
theorem qHO(n:Nat)(c:Chn)(hc:qc9 c=true)(taken:List Msg)(ht:∀x,x∈taken→qtX x)(htl:taken.length≤500)(m:Msg)(hp:0≤m.2.2.2.1∧m.2.2.2.1≤1000)(hl:m.2.2.2.2.length≤1000)(hn:2000≤n):∀(B A:List Stay) (n':Nat),m.2.2.2.2=A++B→(∀s,s∈B→(0≤s.1∧s.1≤(c.1.length:Int)-1)∧-1≤s.2.1∧s.2.2≤1000∧s.2.1≤s.2.2+1)→B.length<n' →
  qb n' (qkk n) (taken,((A.length:Int),(c,(m,()))))=match (qY B).find? (qrc c taken m) with
   | some z=>some (.inr (qxC c taken m z))
   | none=>some (.inl ()):=by
 intro B
 induction B with
 | nil =>
  intro A n' hq hs hn'
  obtain ⟨n',rfl⟩:∃m,n'=m+1:=⟨n'-1,by omega⟩
  rw[List.append_nil] at hq
  rw[qc,qmM]
  simp only[hq,ql,cond_false]
  rfl
 | cons s B ih =>
  intro A n' hq hs hn'
  simp only[List.length_cons] at hn'
  obtain ⟨n',rfl⟩:∃m,n'=m+1:=⟨n'-1,by omega⟩
  have ih':=ih (A++[s]) n' (by rw[hq];simp) (fun z hz=>hs z (List.mem_cons_of_mem _ hz)) (by omega)
  rw[List.length_append,List.length_singleton] at ih'
  have hk:A.length<m.2.2.2.2.length:=by rw[hq];simp
  have hx:m.2.2.2.2[A.length]?=some s:=by rw[hq];simp
  obtain ⟨g1,g2,g3,g4⟩:=hs s List.mem_cons_self
  have h1:=qHN n c hc taken ht htl m hp A.length s g1 g3 hn (s.2.2+1-s.2.1).toNat s.2.1 n (by omega) (by omega) (by omega)
  rw[qc,qmM]
  simp only[qk hk,cond_true,qfj,hx,Option.bind_some,h1]
  unfold qY
  rw[List.find?_append]
  unfold qof
  cases hf:(qgx s.1 s.2.1 (s.2.2+1-s.2.1).toNat).find? (qrc c taken m) with
  | some z=>rfl
  | none =>
   simp only[Option.bind_some,Sum.elim_inl,qg (show A.length<9223372036854775807 by omega),ih',Option.none_or]
theorem qvO{nh nn:Int}:∀{ss:List Stay} {last:Int},qi5 nh nn last ss=true→-1≤last→∀s,s∈ss→(0≤s.1∧s.1≤nh-1)∧0≤s.2.1∧s.2.2<nn∧s.2.1≤s.2.2
 | [],_,_,_,s,hs=>by cases hs
 | z::ss,last,h,hl,s,hs=>by
  unfold qi5 at h
  simp only[Bool.and_eq_true,qca,decide_eq_true_eq] at h
  rcases List.mem_cons.1 hs with rfl | hs
  ·omega
  ·exact qvO h.2 (by omega) s hs
structure RefOk (c:Chn) (m:Msg):Prop where
 ok:MsgOk c m
 st:qi5 c.1.length c.2 (-1) m.2.2.2.2=true
 ln:m.2.2.2.2.length≤20
theorem qF2{c:Chn}{l:List Msg}(V:Vld c l){m:Msg}(h:m∈qgu l):RefOk c m:=⟨qCz V m h,qxb (V.ms m (qlM.1 h).1) (qmb.1 h).2.1,V.st m (qlM.1 h).1⟩
theorem qHP(n:Nat)(c:Chn)(hc:qc9 c=true)(taken:List Msg)(ht:∀x,x∈taken→qtX x)(htl:taken.length≤500)(m:Msg)(hm:RefOk c m)(hn:2000≤n):qlJ n (c,(taken,(m,())))=some (match (qY m.2.2.2.2).find? (qrc c taken m) with
   | some z=>qxC c taken m z
   | none=>(0,(-1,(0,())))):=by
 obtain ⟨c1,c2,c3,c4⟩:=qrC hc
 have hl:=hm.ln
 have p1:=hm.ok.p1
 have p2:=hm.ok.p2
 have h:=qHO n c hc taken ht htl m (by omega) (by omega) hn m.2.2.2.2 [] n rfl (fun s hs=>by have:=qvO hm.st (by omega) s hs;exact ⟨this.1,by omega,by omega,by omega⟩) (by omega)
 rw[qtr]
 show Option.bind (qb n _ (taken,((([]:List Stay).length:Int),(c,(m,()))))) _=_
 rw[h]
 cases (qY m.2.2.2.2).find? (qrc c taken m)<;>rfl
theorem qEI{c:Chn}{d:DecS}{m:Msg}(hU:qrD d):qrc c d.1 m=fun s=>decide (m.2.2.2.1-lft c d.2.2 s>0):=by
 funext s
 obtain ⟨x,t⟩:=s
 unfold qrc lft
 rw[hU x t]
theorem qJO{c:Chn}{d:DecS}{m:Msg}(hU:qrD d):(match (qY m.2.2.2.2).find? (qrc c d.1 m) with
   | some z=>qxC c d.1 m z
   | none=>(0,(-1,(0,()))))=if ql2 c d.2.2 m then ((qov c d.2.2 m).1.1,((qov c d.2.2 m).1.2,((qov c d.2.2 m).2,()))) else (0,(-1,(0,()))):=by
 rw[qEI hU]
 unfold qov
 have hb:ql2 c d.2.2 m=((qY m.2.2.2.2).find? fun s=>decide (m.2.2.2.1-lft c d.2.2 s>0)).isSome:=by
  unfold ql2
  rw[Bool.eq_iff_iff,List.any_eq_true,List.find?_isSome]
 rw[hb]
 cases (qY m.2.2.2.2).find? fun s=>decide (m.2.2.2.1-lft c d.2.2 s>0) with
 | none=>rfl
 | some z =>
  obtain ⟨x,t⟩:=z
  simp only[Option.isSome_some,if_true]
  unfold qxC lft
  rw[hU x t]
theorem qDe(c:Chn)(q:List Msg):∀x,x∈(dcL c q).1→x∈q:=fun x hx=>by
 obtain ⟨a,w,h1,_,h3,_⟩:=qDU c q ([],([],[]))
 unfold dcL at hx
 rw[h1] at hx
 exact h3 x (by simpa using hx)
theorem qEJ(n:Nat)(c:Chn)(hc:qc9 c=true)(q:List Msg)(hq:∀m,m∈q→RefOk c m)(hl:q.length≤400)(hn:2000≤n):qkl n (c,(q,()))=some ((dcL c q).1,((dcL c q).2.1,())):=by
 rw[qsp]
 have h:=qhs (step:=qi4 n) q (fun k (d:DecS)=>(q,((k:Int),(c,(d.1,(d.2.1,())))))) (dcF c) ([],([],[])) (fun d=>(d.1,(d.2.1,()))) (fun rec k d hk hd=>by
  have hok:∀x,x∈q.take k→MsgOk c x:=fun x hx=>(hq x (List.mem_of_mem_take hx)).ok
  have hU:qrD d:=by rw[hd];exact qEG hok
  have hlen:=qAi c (q.take k) ([],([],[]))
  rw[← hd] at hlen
  simp only[List.length_nil,List.length_take] at hlen
  have hsub:∀x,x∈d.1→qtX x:=fun x hx=>by
   rw[hd] at hx
   have h1:=hq x (List.mem_of_mem_take (qDe c (q.take k) x hx))
   exact h1.ok.small (by have:=h1.ln;omega)
  have hm:=hq q[k] (List.getElem_mem hk)
  rw[qlj]
  simp only[qk hk,cond_true,qm q hk,Option.bind_some,qg (show k<9223372036854775807 by omega),qHP n c hc d.1 hsub (by omega) q[k] hm hn,qJO hU]
  unfold dcF
  cases hs:ql2 c d.2.2 q[k] with
  | true =>
   obtain ⟨v1,_,_⟩:=qFX hs
   obtain ⟨i1,_,_⟩:=qw8 _ _ _ _ hm.st
   have:=i1 _ v1
   simp only[if_true]
   rw[show iLt (qov c d.2.2 q[k]).1.2 0=false from decide_eq_false (by omega)]
   simp only[cond_false]
   rw[q8 (by rw[Nat.ble_eq];unfold nAdd;omega)]
   rfl
  | false =>
   simp only[Bool.false_eq_true,if_false]
   rw[show iLt (-1) 0=true from rfl]
   simp only[cond_true]
   rw[q8 (by rw[Nat.ble_eq];unfold nAdd;omega)]
   rfl) (fun rec d=>by
  rw[qlj]
  simp only[ql,cond_false]) (n:=n) (by omega)
 show Option.bind (qb n _ (q,(((0:Nat):Int),(c,([],([],())))))) _=_
 rw[h]
 rfl
abbrev qlN:=Int×(Int×Int)
abbrev qxD:=Int×Int
abbrev Work:=Int×(Int×Int)
abbrev Uni:=Chn×(List Msg×(Int×(List Int×(List (List Int)×(List qlN×(List qxD×(List Work×(Int×(Int×(Int×Int))))))))))
theorem qiy(n:Nat)(a lo hi:Int):qF n (a,(lo,(hi,())))=some (wi a lo hi,()):=by
 rw[qs3]
 show cond (iGe a lo) (some ((iLe a hi),())) (some (false,()))=_
 unfold wi iGe iLe
 by_cases h:a≥lo
 ·rw[decide_eq_true h];rfl
 ·rw[decide_eq_false h];rfl
def shB(l:List Int):Bool:=l.all (fun x=>wi x 0 100)&&decide (l.sum=100)
theorem qJP{l:List Int}(h:∀x,x∈l→0≤x∧x≤100):0≤l.sum∧l.sum≤100*l.length:=by
 induction l with
 | nil=>simp
 | cons x l ih =>
  have h1:=h x List.mem_cons_self
  have h2:=ih fun y hy=>h y (List.mem_cons_of_mem _ hy)
  simp only[List.sum_cons,List.length_cons]
  omega
theorem qCD(n:Nat)(l:List Int)(hl:l.length≤1000)(hn:2000≤n):qi2 n (l,())=some (shB l&&wi (l.length:Int) 1 6,()):=by
 rw[qrz]
 have key:∀(B A:List Int) (n':Nat),l=A++B→(∀x,x∈A→0≤x∧x≤100)→B.length<n'→qb n' (qh4 n) (l,(A.sum,((A.length:Int),())))=some (cond (B.all fun x=>wi x 0 100) (.inl (l,(l.sum,()))) (.inr (false,()))):=by
  intro B
  induction B with
  | nil =>
   intro A n' hq hA hn'
   obtain ⟨n',rfl⟩:∃m,n'=m+1:=⟨n'-1,by omega⟩
   rw[List.append_nil] at hq
   rw[qc,qku]
   simp only[hq,ql,cond_false]
   rfl
  | cons x B ih =>
   intro A n' hq hA hn'
   obtain ⟨n',rfl⟩:∃m,n'=m+1:=⟨n'-1,by omega⟩
   have hAl:A.length<l.length:=by rw[hq];simp
   have hx:l[A.length]?=some x:=by rw[hq];simp
   have hsum:=qJP hA
   rw[qc,qku]
   simp only[qk hAl,cond_true,qfj,hx,Option.bind_some,qiy]
   rw[List.all_cons]
   cases hw:wi x 0 100 with
   | false=>rfl
   | true =>
    have hx2:=qca.1 hw
    simp only[Bool.not_true,cond_false,Bool.true_and]
    rw[show iW (iAdd A.sum x)=(A++[x]).sum by rw[qbm (by unfold iAdd;omega) (by unfold iAdd;omega)];simp,qg (by omega),show A.length+1=(A++[x]).length by simp]
    exact ih (A++[x]) n' (by rw[hq];simp) (fun y hy=>by
     rcases List.mem_append.1 hy with hy | hy
     ·exact hA y hy
     ·rw[List.mem_singleton] at hy;rw[hy];exact hx2) (by simp at hn';omega)
 have h:=key l [] n rfl (fun x hx=>by cases hx) (by omega)
 show Option.bind (qb n _ (l,((([]:List Int).sum),((([]:List Int).length:Int),())))) _=_
 rw[h]
 unfold shB
 cases l.all fun x=>wi x 0 100 with
 | false=>rfl
 | true =>
  simp only[cond_true,Option.bind_some,Sum.elim_inl,Bool.true_and,qiy,Int.ofNat_eq_natCast]
  by_cases e:l.sum=100
  ·rw[qbn e,decide_eq_true e];rfl
  ·rw[qdT e,decide_eq_false e];rfl
def qmT(u:Uni)(x:Int):Bool:=wi x 0 (u.2.2.1-1)
theorem qBb(n:Nat)(u:Uni)(x:Int)(hc:-1000≤u.2.2.1∧u.2.2.1≤1000):qfU n (u,(x,()))=some (qmT u x,()):=by
 rw[qs4]
 show Option.bind (qF n (x,((0:Int),(iW (iSub u.2.2.1 1),())))) _=_
 rw[qbm (by unfold iSub;omega) (by unfold iSub;omega),qiy]
 rfl
def qnC(u:Uni)(g:qlN):Bool:=wi g.1 0 99&&(wi g.2.1 (-1) (u.2.2.1-1)&&wi g.2.2 0 20)
def qhU(u:Uni)(l:List qlN):Bool:=l.all (qnC u)&&decide ((l.map (·.1)).Nodup)
theorem qBq(n:Nat)(u:Uni)(i:Nat)(g:qlN)(hi:i<u.2.2.2.2.2.1.length)(hg:u.2.2.2.2.2.1[i]=g)(hl:u.2.2.2.2.2.1.length≤1000)(hn:2000≤n) :
  qb n (qfA n) ((i:Int),((0:Int),(u,(g,()))))=some (cond ((u.2.2.2.2.2.1.take i).any fun x=>decide (x.1=g.1)) (.inr (false,())) (.inl ((i:Int),(u,())))):=by
 have hti:(u.2.2.2.2.2.1.take i).length=i:=by simp;omega
 exact qj4 (step:=qfA n) (u.2.2.2.2.2.1.take i) (fun k=>((i:Int),((k:Int),(u,(g,()))))) (fun x=>decide (x.1=g.1)) (.inr (false,())) (.inl ((i:Int),(u,()))) (fun rec k hk=>by
  have hk':k<i:=by omega
  rw[qkv]
  simp only[qk hk',cond_true,qm _ (show k<u.2.2.2.2.2.1.length by omega),Option.bind_some,qg (show k<9223372036854775807 by omega),List.getElem_take]
  by_cases e:(u.2.2.2.2.2.1[k]).1=g.1
  ·rw[qbn e,decide_eq_true e]
  ·rw[qdT e,decide_eq_false e]) (fun rec=>by
  rw[hti,qkv]
  simp only[ql,cond_false]) (n:=n) (by omega)
theorem qCE(n:Nat)(u:Uni)(hc:-1000≤u.2.2.1∧u.2.2.1≤1000)(hl:u.2.2.2.2.2.1.length≤1000)(hn:2000≤n):qi3 n (u,())=some (qhU u u.2.2.2.2.2.1&&decide (u.2.2.2.2.2.1.length≤40),()):=by
 rw[qrA]
 obtain ⟨l,hL⟩:∃l,l=u.2.2.2.2.2.1:=⟨_,rfl⟩
 have key:∀(B A:List qlN) (n':Nat),l=A++B→(A.map (·.1)).Nodup→B.length<n'→qb n' (qh5 n) ((A.length:Int),(u,()))=some (cond (B.all (qnC u)&&decide ((l.map (·.1)).Nodup)) (.inl (u,())) (.inr (false,()))):=by
  intro B
  induction B with
  | nil =>
   intro A n' hq hA hn'
   obtain ⟨n',rfl⟩:∃m,n'=m+1:=⟨n'-1,by omega⟩
   rw[List.append_nil] at hq
   rw[qc,qkw]
   simp only[← hL,hq,ql,cond_false,List.all_nil,Bool.true_and,decide_eq_true hA]
   rfl
  | cons x B ih =>
   intro A n' hq hA hn'
   obtain ⟨n',rfl⟩:∃m,n'=m+1:=⟨n'-1,by omega⟩
   have hAl:A.length<l.length:=by rw[hq];simp
   have hx:l[A.length]?=some x:=by rw[hq];simp
   have hxe:l[A.length]=x:=by rw[List.getElem?_eq_getElem hAl] at hx;injection hx
   have htk:l.take A.length=A:=by rw[hq];simp
   have hll:l.length≤1000:=by rw[hL];exact hl
   rw[qc,qkw]
   simp only[← hL,qk hAl,cond_true,qfj,hx,Option.bind_some,qiy,qbm (n:=iSub u.2.2.1 1) (by unfold iSub;omega) (by unfold iSub;omega),show (Int.negSucc 0) = -1 from rfl]
   rw[List.all_cons]
   have h1:=qBq n u A.length x (by rw[← hL];exact hAl) (by subst hL;exact hxe) hl hn
   rw[← hL,htk] at h1
   have hg:qnC u x=(wi x.1 0 99&&(wi x.2.1 (-1) (iSub u.2.2.1 1)&&wi x.2.2 0 20)):=rfl
   cases h2:wi x.1 0 99 with
   | false=>rw[hg,h2];rfl
   | true =>
    cases h3:wi x.2.1 (-1) (iSub u.2.2.1 1) with
    | false=>rw[hg,h2,h3];rfl
    | true =>
     cases h4:wi x.2.2 0 20 with
     | false=>rw[hg,h2,h3,h4];rfl
     | true =>
      rw[hg,h2,h3,h4]
      simp only[Bool.not_true,cond_false,Bool.true_and,h1]
      cases ha:A.any fun y=>decide (y.1=x.1) with
      | true =>
       obtain ⟨y,hy,hyx⟩:=List.any_eq_true.1 ha
       have hnd:¬(l.map (·.1)).Nodup:=fun hnd=>by
        rw[hq,List.map_append,List.map_cons,List.nodup_append] at hnd
        exact hnd.2.2 y.1 (List.mem_map_of_mem hy) x.1 List.mem_cons_self (of_decide_eq_true hyx)
       rw[decide_eq_false hnd,Bool.and_false]
       rfl
      | false =>
       simp only[cond_false,Option.bind_some,Sum.elim_inl,qg (show A.length<9223372036854775807 by omega)]
       have:=ih (A++[x]) n' (by rw[hq];simp) (by
        rw[List.map_append,List.nodup_append]
        refine ⟨hA,by simp,fun a ha' b hb=>?_⟩
        obtain ⟨y,hy,rfl⟩:=List.mem_map.1 ha'
        simp only[List.map_cons,List.map_nil,List.mem_singleton] at hb
        rw[hb]
        rw[List.any_eq_false] at ha
        have:=ha y hy
        simpa using this) (by simp at hn';omega)
       rw[List.length_append,List.length_cons,List.length_nil,Nat.zero_add] at this
       exact this
 have h:=key l [] n rfl List.nodup_nil (by rw[hL];omega)
 rw[show (((0:Int),(u,())):Int×(Uni×Unit))=((([]:List qlN).length:Int),(u,())) from rfl,h]
 unfold qhU
 rw[← hL]
 cases l.all (qnC u)&&decide ((l.map (·.1)).Nodup) with
 | false=>rfl
 | true =>
  simp only[cond_true,Option.bind_some,Sum.elim_inl,Bool.true_and,← hL]
  by_cases e:l.length≤40
  ·rw[show iLe (l.length:Int) 40=true from decide_eq_true (by omega),decide_eq_true e]
  ·rw[show iLe (l.length:Int) 40=false from decide_eq_false (by omega),decide_eq_false e]
def qnD(u:Uni)(r:qxD):Bool:=qmT u r.1&&qmT u r.2
def qqa(u:Uni)(w:Work):Bool:=qmT u w.1&&(wi w.2.1 0 ((u.1.1.length:Int)-1)&&wi w.2.2 0 20)
def rowB(u:Uni)(r:List Int):Bool:=decide ((r.length:Int)=u.2.2.1)&&shB r
def uniB(u:Uni):Bool:=wi u.2.2.1 1 6&&(decide (u.2.2.2.1.length=u.1.1.length)&&(decide (u.2.2.2.2.1.length=u.1.1.length)&&(qhU u u.2.2.2.2.2.1&&(decide (u.2.2.2.2.2.1.length≤40)&&(decide (u.2.2.2.2.2.2.1.length≤12)&&(decide (u.2.2.2.2.2.2.2.1.length≤20)&&(u.2.2.2.1.all (fun x=>wi x 0 100000)&&(u.2.2.2.2.1.all (rowB u)&&(u.2.2.2.2.2.2.1.all (qnD u)&&(u.2.2.2.2.2.2.2.1.all (qqa u)&&(wi u.2.2.2.2.2.2.2.2.1 0 100&&(wi u.2.2.2.2.2.2.2.2.2.1 0 100&&(wi u.2.2.2.2.2.2.2.2.2.2.1 0 100000&&wi u.2.2.2.2.2.2.2.2.2.2.2 0 100000)))))))))))))
def chkU(u:Uni):Int:=if chkN u.1 u.2.1=0 then cond (uniB u) 0 110 else chkN u.1 u.2.1
theorem qDV{α β:Type}(p:α→Bool)(q:β→Bool):∀(a:List α) (b:List β),a.length=b.length→(List.zip a b).all (fun x=>p x.1&&q x.2)=(a.all p&&b.all q)
 | [],[],_=>rfl
 | [],_::_,h=>by simp at h
 | _::_,[],h=>by simp at h
 | x::a,y::b,h=>by
  rw[List.zip_cons_cons,List.all_cons,List.all_cons,List.all_cons,qDV p q a b (by simpa using h)]
  cases p x<;>cases q y<;>cases a.all p<;>cases b.all q<;>rfl
theorem qEK(n:Nat)(u:Uni)(hc:1≤u.2.2.1∧u.2.2.1≤6)(he:u.2.2.2.1.length=u.2.2.2.2.1.length)(hl:u.2.2.2.1.length≤1000)(hr:∀r,r∈u.2.2.2.2.1→r.length≤1000)(hn:2000≤n) :
  qb n (qft n) ((0:Int),(u,()))=some (cond (u.2.2.2.1.all (fun x=>wi x 0 100000)&&u.2.2.2.2.1.all (rowB u)) (.inl (u,())) (.inr (110,()))):=by
 have hz:(List.zip u.2.2.2.1 u.2.2.2.2.1).length=u.2.2.2.1.length:=by rw[List.length_zip];omega
 have h:=qpl (step:=qft n) (List.zip u.2.2.2.1 u.2.2.2.2.1) (fun k=>((k:Int),(u,()))) (fun x=>wi x.1 0 100000&&rowB u x.2) (.inl (u,())) (.inr (110,())) (fun rec k hk=>by
  have h1:k<u.2.2.2.1.length:=by omega
  have h2:k<u.2.2.2.2.1.length:=by omega
  have hrr:=hr _ (List.getElem_mem h2)
  rw[qmI,List.getElem_zip]
  simp only[qk h1,cond_true,qm _ h1,qm _ h2,Option.bind_some,qiy,qCD n _ hrr hn,qg (show k<9223372036854775807 by omega)]
  cases wi (u.2.2.2.1[k]) 0 100000 with
  | false=>rfl
  | true =>
   simp only[Bool.not_true,cond_false,Bool.true_and]
   unfold rowB
   by_cases e:((u.2.2.2.2.1[k]).length:Int)=u.2.2.1
   ·rw[qc3 e,decide_eq_true e,show wi ((u.2.2.2.2.1[k]).length:Int) 1 6=true by rw[e];exact qca.2 hc]
    simp only[cond_false,Bool.and_true,Bool.true_and]
    cases shB (u.2.2.2.2.1[k])<;>rfl
   ·rw[qf3 e,decide_eq_false e];rfl) (fun rec=>by
  rw[hz,qmI]
  simp only[ql,cond_false]) (n:=n) (by omega)
 have h':qb n (qft n) ((0:Int),(u,()))=_:=h
 rw[h',qDV (fun x=>wi x 0 100000) (rowB u) _ _ he]
theorem qEL(n:Nat)(u:Uni)(hc:1≤u.2.2.1∧u.2.2.1≤6)(hl:u.2.2.2.2.2.2.1.length≤1000)(hn:2000≤n) :
  qb n (qhm n) ((0:Int),(u,()))=some (cond (u.2.2.2.2.2.2.1.all (qnD u)) (.inl (u,())) (.inr (110,()))):=by
 exact qpl (step:=qhm n) u.2.2.2.2.2.2.1 (fun k=>((k:Int),(u,()))) (qnD u) (.inl (u,())) (.inr (110,())) (fun rec k hk=>by
  rw[qmJ]
  simp only[qk hk,cond_true,qm _ hk,Option.bind_some,qBb n u _ (by omega),qg (show k<9223372036854775807 by omega)]
  unfold qnD
  cases qmT u (u.2.2.2.2.2.2.1[k]).1<;>cases qmT u (u.2.2.2.2.2.2.1[k]).2<;>rfl) (fun rec=>by
  rw[qmJ]
  simp only[ql,cond_false]) (n:=n) (by omega)
theorem qEM(n:Nat)(u:Uni)(hc:1≤u.2.2.1∧u.2.2.1≤6)(he:u.2.2.2.1.length=u.1.1.length)(hl:u.2.2.2.2.2.2.2.1.length≤1000)(hf:u.2.2.2.1.length≤1000)(hn:2000≤n) :
  qb n (qhn n) ((0:Int),(u,()))=some (cond (u.2.2.2.2.2.2.2.1.all (qqa u)) (.inl (u,())) (.inr (110,()))):=by
 exact qpl (step:=qhn n) u.2.2.2.2.2.2.2.1 (fun k=>((k:Int),(u,()))) (qqa u) (.inl (u,())) (.inr (110,())) (fun rec k hk=>by
  rw[qmK]
  simp only[qk hk,cond_true,qm _ hk,Option.bind_some,qBb n u _ (by omega),qiy,qg (show k<9223372036854775807 by omega),qbm (n:=iSub (u.2.2.2.1.length:Int) 1) (by unfold iSub;omega) (by unfold iSub;omega)]
  unfold qqa
  rw[← he]
  show _=cond (_&&(wi _ 0 (iSub (u.2.2.2.1.length:Int) 1)&&_)) _ _
  cases qmT u (u.2.2.2.2.2.2.2.1[k]).1<;>cases wi (u.2.2.2.2.2.2.2.1[k]).2.1 0 (iSub (u.2.2.2.1.length:Int) 1)<;>cases wi (u.2.2.2.2.2.2.2.1[k]).2.2 0 20<;>rfl) (fun rec=>by
  rw[qmK]
  simp only[ql,cond_false]) (n:=n) (by omega)
structure Small11 (u:Uni):Prop where
 hu:u.1.1.length≤20
 ln:u.2.1.length≤9∨(40<u.2.1.length∧u.2.1.length≤60)
 st:∀m,m∈u.2.1→m.2.2.2.2.length≤20
 fe:u.2.2.2.1.length≤20
 sh:u.2.2.2.2.1.length≤20
 rl:∀r,r∈u.2.2.2.2.1→r.length≤20
 gu:u.2.2.2.2.2.1.length≤42
 ri:u.2.2.2.2.2.2.1.length≤14
 wo:u.2.2.2.2.2.2.2.1.length≤22
theorem Small11.ms{u:Uni}(h:Small11 u):u.2.1.length≤60:=by rcases h.ln with h | h<;>omega
theorem Small11.near{u:Uni}(h:Small11 u):Near u.1 u.2.1:=⟨h.st,h.hu,h.ln⟩
theorem ql3(n:Nat)(u:Uni)(hs:Small11 u)(hn:5000≤n):qgs n (u,())=some (chkU u,()):=by
 have a1:=hs.hu;have a2:=hs.ms;have a3:=hs.fe;have a4:=hs.sh;have a5:=hs.gu;have a6:=hs.ri;have a7:=hs.wo
 rw[qtq]
 have h0:=qHu n u.1 u.2.1 (by omega) (by omega) (fun m hm=>by have:=hs.st m hm;omega) (by omega)
 show Option.bind (qim n (u.1,(u.2.1,()))) _=_
 rw[h0,Option.bind_some]
 unfold chkU
 by_cases hk:chkN u.1 u.2.1=0
 ·rw[if_pos hk,qc3 hk]
  simp only[cond_false,qiy,Option.bind_some]
  unfold uniB
  cases hw:wi u.2.2.1 1 6 with
  | false=>rfl
  | true =>
   have hc:=qca.1 hw
   simp only[Bool.not_true,cond_false,Bool.true_and]
   by_cases e1:u.2.2.2.1.length=u.1.1.length
   ·rw[qc3 (show (u.2.2.2.1.length:Int)=u.1.1.length by omega),decide_eq_true e1]
    simp only[cond_false,Bool.true_and]
    by_cases e2:u.2.2.2.2.1.length=u.1.1.length
    ·rw[qc3 (show (u.2.2.2.2.1.length:Int)=u.1.1.length by omega),decide_eq_true e2]
     simp only[cond_false,Bool.true_and]
     rw[qCE n u (by omega) (by omega) (by omega),Option.bind_some]
     cases hg:(qhU u u.2.2.2.2.2.1&&decide (u.2.2.2.2.2.1.length≤40)) with
     | false =>
      rw[show ∀x y z:Bool,(x&&(y&&z))=((x&&y)&&z) from fun x y z=>(Bool.and_assoc x y z).symm,hg];rfl
     | true =>
      rw[show ∀x y z:Bool,(x&&(y&&z))=((x&&y)&&z) from fun x y z=>(Bool.and_assoc x y z).symm,hg]
      simp only[Bool.not_true,cond_false,Bool.true_and]
      by_cases e3:u.2.2.2.2.2.2.1.length≤12
      ·rw[show iGt (u.2.2.2.2.2.2.1.length:Int) 12=false from decide_eq_false (by omega),decide_eq_true e3]
       simp only[cond_false,Bool.true_and]
       by_cases e4:u.2.2.2.2.2.2.2.1.length≤20
       ·rw[show iGt (u.2.2.2.2.2.2.2.1.length:Int) 20=false from decide_eq_false (by omega),decide_eq_true e4]
        simp only[cond_false,Bool.true_and]
        rw[qEK n u hc (by omega) (by omega) (fun r hr=>by have:=hs.rl r hr;omega) (by omega),Option.bind_some]
        cases h5:(u.2.2.2.1.all (fun x=>wi x 0 100000)&&u.2.2.2.2.1.all (rowB u)) with
        | false =>
         rw[← Bool.and_assoc,h5];rfl
        | true =>
         rw[← Bool.and_assoc,h5]
         simp only[cond_true,Sum.elim_inl,Bool.true_and,qEL n u hc (by omega) (by omega),Option.bind_some]
         cases u.2.2.2.2.2.2.1.all (qnD u) with
         | false=>rfl
         | true =>
          simp only[cond_true,Sum.elim_inl,Bool.true_and,qEM n u hc e1 (by omega) (by omega) (by omega),Option.bind_some]
          cases u.2.2.2.2.2.2.2.1.all (qqa u) with
          | false=>rfl
          | true =>
           simp only[cond_true,Sum.elim_inl,Bool.true_and,qiy,Option.bind_some]
           cases wi u.2.2.2.2.2.2.2.2.1 0 100<;>cases wi u.2.2.2.2.2.2.2.2.2.1 0 100<;>cases wi u.2.2.2.2.2.2.2.2.2.2.1 0 100000<;>cases wi u.2.2.2.2.2.2.2.2.2.2.2 0 100000<;>rfl
       ·rw[show iGt (u.2.2.2.2.2.2.2.1.length:Int) 20=true from decide_eq_true (by omega),decide_eq_false e4];rfl
      ·rw[show iGt (u.2.2.2.2.2.2.1.length:Int) 12=true from decide_eq_true (by omega),decide_eq_false e3];rfl
    ·rw[qf3 (show (u.2.2.2.2.1.length:Int)≠u.1.1.length by omega),decide_eq_false e2];rfl
   ·rw[qf3 (show (u.2.2.2.1.length:Int)≠u.1.1.length by omega),decide_eq_false e1];rfl
 ·rw[if_neg hk,qf3 hk];rfl
abbrev Cnt:=List (Int×Int)
def qgv(x:Int):Cnt→Int
 | []=>0
 | p::l=>if x=p.1 then p.2 else qgv x l
def qqb(x:Int)(v:Int):Cnt→Cnt
 | []=>[(x,v)]
 | p::l=>if x=p.1 then (p.1,v)::l else p::qqb x v l
def qst(x:Int):Cnt→Bool
 | []=>false
 | p::l=>if x=p.1 then true else qst x l
def ixLK(x:Int):Cnt→Nat
 | []=>0
 | p::l=>if x=p.1 then 0 else ixLK x l+1
theorem eqK(a b:Int):Ty.eqB (Ty.i .i64) a b=decide (a=b):=by
 show (a==b)=_
 by_cases h:a=b<;>simp[h]
theorem qCF(x:Int):∀(l:Cnt) (i:Nat),mpAt (Ty.i .i64) x l i=if qst x l then some (i+ixLK x l,qgv x l) else none
 | [],_=>rfl
 | p::l,i=>by
  unfold qst ixLK qgv
  show (match Ty.eqB (Ty.i .i64) x p.1 with
   | true=>some (i,p.2)
   | false=>mpAt (Ty.i .i64) x l (i+1))=_
  rw[show Ty.eqB (Ty.i .i64) x p.1=decide (x=p.1) from eqK x p.1]
  by_cases h:x=p.1
  ·rw[if_pos h,if_pos h,if_pos h,show decide (x=p.1)=true from decide_eq_true h]
   rfl
  ·rw[if_neg h,if_neg h,if_neg h,show decide (x=p.1)=false from decide_eq_false h]
   show mpAt (Ty.i .i64) x l (i+1)=_
   rw[qCF x l (i+1)]
   congr 2
   rw[show i+1+ixLK x l=i+(ixLK x l+1) by omega]
theorem qAp{x:Int}{v:Int}:∀{l:Cnt},qst x l=false→qgv x l=0∧qqb x v l=l++[(x,v)]∧ixLK x l=l.length
 | [],_=>⟨rfl,rfl,rfl⟩
 | p::l,h=>by
  unfold qst at h
  split at h
  ·cases h
  ·rename_i hx
   obtain ⟨h1,h2,h3⟩:=qAp (v:=v) h
   unfold qgv qqb ixLK
   rw[if_neg hx,if_neg hx,if_neg hx,h1,h2,h3]
   exact ⟨rfl,rfl,rfl⟩
theorem qCG{x:Int}{v:Int}:∀{l:Cnt},qst x l=true→qjL (ixLK x l) v l=qqb x v l∧ixLK x l<l.length
 | [],h=>by cases h
 | p::l,h=>by
  unfold qst at h
  unfold ixLK qqb
  split at h
  ·rename_i hx
   rw[if_pos hx,if_pos hx]
   exact ⟨rfl,by simp⟩
  ·rename_i hx
   rw[if_neg hx,if_neg hx]
   obtain ⟨h1,h2⟩:=qCG (v:=v) h
   refine ⟨?_,by simp;omega⟩
   rw[← h1]
   simp[qjL]
theorem qF3(x:Int)(l:Cnt):qe9 (Ty.i .i64) (0:Int) x l=qgv x l:=by
 unfold qe9
 rw[qCF x l 0]
 cases h:qst x l with
 | true=>rfl
 | false=>exact (qAp (v:=0) h).1.symm
theorem qxd(x z:Int)(v:Int):∀(l:Cnt),qgv z (qqb x v l)=if z=x then v else qgv z l
 | []=>by simp[qqb,qgv]
 | p::l=>by
  unfold qqb
  split
  ·rename_i hx
   unfold qgv
   by_cases h:z=x
   ·rw[if_pos h,if_pos (by rw[h,hx])]
   ·rw[if_neg h,if_neg (by rw[← hx];exact h),if_neg (by rw[← hx];exact h)]
  ·rename_i hx
   unfold qgv
   by_cases h:z=p.1
   ·rw[if_pos h,if_pos h,if_neg (fun e=>hx (by rw[← e,h]))]
   ·rw[if_neg h,if_neg h,qxd x z v l]
theorem qF4(x:Int)(v:Int)(l:Cnt):qnF (Ty.i .i64) v x l=qqb x v l:=by
 unfold qnF
 rw[qCF x l 0]
 cases h:qst x l with
 | true =>
  show qjL (0+ixLK x l) v l=_
  rw[Nat.zero_add]
  exact (qCG h).1
 | false=>exact (qAp (v:=v) h).2.1.symm
theorem qlO(n:Nat)(a lo hi:Int):qbd n (a,(lo,(hi,())))=some (wi a lo hi,()):=by
 rw[qxV]
 show cond (iLe lo a) (some ((iLe a hi),())) (some (false,()))=_
 unfold wi iLe
 by_cases h:lo≤a
 ·rw[decide_eq_true h];rfl
 ·rw[decide_eq_false h];rfl
theorem qzF(n:Nat)(x:Int):qj0 n (x,())=some (wi x 0 100,()):=by
 rw[qw5]
 show Option.bind (qbd n (x,((0:Int),((100:Int),())))) _=_
 rw[qlO];rfl
theorem qF5(n:Nat)(x:Int):qor n (x,())=some (wi x 0 100000,()):=by
 rw[qAb]
 show Option.bind (qbd n (x,((0:Int),((100000:Int),())))) _=_
 rw[qlO];rfl
theorem qF6(n:Nat)(l:List Int)(p:Int→Bool)(hE:∀x,x∈l→qe6 n (x,())=some (!p x,()))(hl:l.length≤1000)(hn:2000≤n):qfI n (l,(((),()),()))=some (l.all p,()):=by
 rw[qnO,qgd,qgN]
 have h1:=qcX (step:=qbM n) l (fun k=>(l,((l.length:Int),((k:Int),())))) (fun x=>!p x) (fun k=>.inr ((k:Int),())) (.inl ()) (fun rec k hk=>by
  rw[qcV]
  simp only[qk hk,cond_true,qm l hk,Option.bind_some,hE _ (List.getElem_mem hk),qg (show k<9223372036854775807 by omega)]) (fun rec=>by
  rw[qcV]
  simp only[ql,cond_false]) (n:=n) (by omega)
 rw[show l.all p = !l.any fun x=>!p x by simp[List.all_eq_not_any_not]]
 show Option.bind (Option.bind (Option.bind (qb n _ (l,((l.length:Int),(((0:Nat):Int),())))) _) _) _=_
 rcases h1 with ⟨h1,h2⟩ | ⟨k,hk,h1,_,h2⟩
 ·rw[h2,h1];rfl
 ·rw[h2,show (l.any fun x=>!p x)=true from List.any_eq_true.2 ⟨_,List.getElem_mem hk,h1⟩]
  show some (!iGe (k:Int) 0,())=_
  simp[iGe]
theorem qF7(n:Nat)(l:List Int)(p:Int→Bool)(hE:∀x,x∈l→qgp n (x,())=some (!p x,()))(hl:l.length≤1000)(hn:2000≤n):qhc n (l,(((),()),()))=some (l.all p,()):=by
 rw[qpr,qgZ,qhB]
 have h1:=qcX (step:=qb3 n) l (fun k=>(l,((l.length:Int),((k:Int),())))) (fun x=>!p x) (fun k=>.inr ((k:Int),())) (.inl ()) (fun rec k hk=>by
  rw[qdw]
  simp only[qk hk,cond_true,qm l hk,Option.bind_some,hE _ (List.getElem_mem hk),qg (show k<9223372036854775807 by omega)]) (fun rec=>by
  rw[qdw]
  simp only[ql,cond_false]) (n:=n) (by omega)
 rw[show l.all p = !l.any fun x=>!p x by simp[List.all_eq_not_any_not]]
 show Option.bind (Option.bind (Option.bind (qb n _ (l,((l.length:Int),(((0:Nat):Int),())))) _) _) _=_
 rcases h1 with ⟨h1,h2⟩ | ⟨k,hk,h1,_,h2⟩
 ·rw[h2,h1];rfl
 ·rw[h2,show (l.any fun x=>!p x)=true from List.any_eq_true.2 ⟨_,List.getElem_mem hk,h1⟩]
  show some (!iGe (k:Int) 0,())=_
  simp[iGe]
theorem qF8(n:Nat)(l:List (List Int))(st:Uni×Unit)(p:(List Int)→Bool)(hE:∀x,x∈l→qe7 n (x,st)=some (!p x,st))(hl:l.length≤1000)(hn:2000≤n):qfJ n (l,st)=some (l.all p,st):=by
 rw[qnP,qge,qgO]
 have h1:=qcX (step:=qbN n) l (fun k=>(l,((l.length:Int),((k:Int),st)))) (fun x=>!p x) (fun k=>.inr ((k:Int),st)) (.inl st) (fun rec k hk=>by
  rw[qcW]
  simp only[qk hk,cond_true,qm l hk,Option.bind_some,hE _ (List.getElem_mem hk),qg (show k<9223372036854775807 by omega)]) (fun rec=>by
  rw[qcW]
  simp only[ql,cond_false]) (n:=n) (by omega)
 rw[show l.all p = !l.any fun x=>!p x by simp[List.all_eq_not_any_not]]
 show Option.bind (Option.bind (Option.bind (qb n _ (l,((l.length:Int),(((0:Nat):Int),st)))) _) _) _=_
 rcases h1 with ⟨h1,h2⟩ | ⟨k,hk,h1,_,h2⟩
 ·rw[h2,h1];rfl
 ·rw[h2,show (l.any fun x=>!p x)=true from List.any_eq_true.2 ⟨_,List.getElem_mem hk,h1⟩]
  show some (!iGe (k:Int) 0,st)=_
  simp[iGe]
theorem qDf(n:Nat)(l:List qxD)(st:Uni×Unit)(p:qxD→Bool)(hE:∀x,x∈l→qb4 n (x,st)=some (!p x,st))(hl:l.length≤1000)(hn:2000≤n):qcj n (l,st)=some (l.all p,st):=by
 rw[qhC,qdj,qdM]
 have h1:=qcX (step:=qO n) l (fun k=>(l,((l.length:Int),((k:Int),st)))) (fun x=>!p x) (fun k=>.inr ((k:Int),st)) (.inl st) (fun rec k hk=>by
  rw[qbk]
  simp only[qk hk,cond_true,qm l hk,Option.bind_some,hE _ (List.getElem_mem hk),qg (show k<9223372036854775807 by omega)]) (fun rec=>by
  rw[qbk]
  simp only[ql,cond_false]) (n:=n) (by omega)
 rw[show l.all p = !l.any fun x=>!p x by simp[List.all_eq_not_any_not]]
 show Option.bind (Option.bind (Option.bind (qb n _ (l,((l.length:Int),(((0:Nat):Int),st)))) _) _) _=_
 rcases h1 with ⟨h1,h2⟩ | ⟨k,hk,h1,_,h2⟩
 ·rw[h2,h1];rfl
 ·rw[h2,show (l.any fun x=>!p x)=true from List.any_eq_true.2 ⟨_,List.getElem_mem hk,h1⟩]
  show some (!iGe (k:Int) 0,st)=_
  simp[iGe]
theorem qEN(n:Nat)(l:List Work)(st:Uni×Unit)(p:Work→Bool)(hE:∀x,x∈l→qce n (x,st)=some (!p x,st))(hl:l.length≤1000)(hn:2000≤n):qco n (l,st)=some (l.all p,st):=by
 rw[qhL,qdz,qdS]
 have h1:=qcX (step:=qQ n) l (fun k=>(l,((l.length:Int),((k:Int),st)))) (fun x=>!p x) (fun k=>.inr ((k:Int),st)) (.inl st) (fun rec k hk=>by
  rw[qbp]
  simp only[qk hk,cond_true,qm l hk,Option.bind_some,hE _ (List.getElem_mem hk),qg (show k<9223372036854775807 by omega)]) (fun rec=>by
  rw[qbp]
  simp only[ql,cond_false]) (n:=n) (by omega)
 rw[show l.all p = !l.any fun x=>!p x by simp[List.all_eq_not_any_not]]
 show Option.bind (Option.bind (Option.bind (qb n _ (l,((l.length:Int),(((0:Nat):Int),st)))) _) _) _=_
 rcases h1 with ⟨h1,h2⟩ | ⟨k,hk,h1,_,h2⟩
 ·rw[h2,h1];rfl
 ·rw[h2,show (l.any fun x=>!p x)=true from List.any_eq_true.2 ⟨_,List.getElem_mem hk,h1⟩]
  show some (!iGe (k:Int) 0,st)=_
  simp[iGe]
theorem qEO(n:Nat)(l:List Int)(hl:l.length≤1000)(hn:2000≤n):qq1 n (l,())=some (shB l,()):=by
 rw[qxW]
 have h:=qhs (step:=qoG n) l (fun k (b:Int)=>(l,(b,(l,((l.length:Int),((k:Int),())))))) (fun b x=>iW (iAdd b x)) 0 (fun b=>(l,(b,()))) (fun rec k b hk _=>by
  rw[qqB]
  simp only[qk hk,cond_true,qm l hk,Option.bind_some,qg (show k<9223372036854775807 by omega)]) (fun rec b=>by
  rw[qqB]
  simp only[ql,cond_false]) (n:=n) (by omega)
 show Option.bind (qb n _ (l,((0:Int),(l,((l.length:Int),(((0:Nat):Int),())))))) _=_
 rw[h]
 simp only[Option.bind_some]
 rw[qF6 n l (fun x=>wi x 0 100) (fun x _=>by
  rw[qmV,qzF];rfl) hl hn]
 unfold shB
 cases ha:l.all fun x=>wi x 0 100 with
 | false=>rfl
 | true =>
  have hb:∀x,x∈l→0≤x∧x≤100:=fun x hx=>qca.1 (List.all_eq_true.1 ha x hx)
  have fs:∀(m:List Int) (b:Int),(∀x,x∈m→0≤x∧x≤100)→0≤b→b+100*m.length≤1000000→m.foldl (fun b x=>iW (iAdd b x)) b=b+m.sum:=by
   intro m
   induction m with
   | nil=>intro b _ _ _;simp
   | cons x m ih =>
    intro b hm h0 hb
    have hx:=hm x List.mem_cons_self
    simp only[List.length_cons] at hb
    rw[List.foldl_cons,qbm (by unfold iAdd;omega) (by unfold iAdd;omega),ih _ (fun y hy=>hm y (List.mem_cons_of_mem _ hy)) (by unfold iAdd;omega) (by unfold iAdd;omega)]
    unfold iAdd
    rw[List.sum_cons];omega
  simp only[Option.bind_some,cond_true,Bool.true_and]
  rw[fs l 0 hb (Int.le_refl _) (by omega),Int.zero_add]
  by_cases e:l.sum=100
  ·rw[qbn e,decide_eq_true e]
  ·rw[qdT e,decide_eq_false e]
theorem qBc(n:Nat)(u:Uni)(x:Int)(hc:-1000≤u.2.2.1∧u.2.2.1≤1000):qi0 n (x,(u,()))=some (qmT u x,(u,())):=by
 rw[qwi]
 show Option.bind (qbd n (x,((0:Int),(iW (iSub u.2.2.1 1),())))) _=_
 rw[qbm (by unfold iSub;omega) (by unfold iSub;omega),qlO]
 rfl
theorem qF9(n:Nat)(u:Uni)(r:List Int)(hl:r.length≤1000)(hn:2000≤n):qoH n (r,(u,()))=some (rowB u r,(u,())):=by
 rw[qwj]
 unfold rowB
 show cond (iEq (r.length:Int) u.2.2.1) _ _=_
 by_cases e:(r.length:Int)=u.2.2.1
 ·rw[qbn e,decide_eq_true e]
  simp only[cond_true,qEO n r hl hn,Option.bind_some,Bool.true_and]
 ·rw[qdT e,decide_eq_false e];rfl
theorem qGa(n:Nat)(u:Uni)(r:qxD)(hc:-1000≤u.2.2.1∧u.2.2.1≤1000):qgq n (r,(u,()))=some (qnD u r,(u,())):=by
 rw[qot]
 simp only[qBc n u _ hc,Option.bind_some]
 unfold qnD
 cases qmT u r.1<;>rfl
theorem qGb(n:Nat)(u:Uni)(w:Work)(hc:-1000≤u.2.2.1∧u.2.2.1≤1000)(hh:u.1.1.length≤1000):qgr n (w,(u,()))=some (qqa u w,(u,())):=by
 rw[qou]
 simp only[qBc n u _ hc,Option.bind_some,qlO,qbm (n:=iSub (u.1.1.length:Int) 1) (by unfold iSub;omega) (by unfold iSub;omega)]
 unfold qqa
 show _=some (qmT u w.1&&(wi w.2.1 0 (iSub (u.1.1.length:Int) 1)&&wi w.2.2 0 20),(u,()))
 cases qmT u w.1<;>cases wi w.2.1 0 (iSub (u.1.1.length:Int) 1)<;>rfl
theorem qGc(n:Nat)(u:Uni)(g:qlN)(m:Cnt)(hc:-1000≤u.2.2.1∧u.2.2.1≤1000)(hm:0≤qgv g.1 m∧qgv g.1 m≤1000):qoI n (g,(m,(u,())))=some (qnC u g&&decide (qgv g.1 m=0),(qqb g.1 (qgv g.1 m+1) m,(u,()))):=by
 rw[qwk]
 simp only[qlO,Option.bind_some,qF3,qF4,qxd,if_true,qbm (n:=iSub u.2.2.1 1) (by unfold iSub;omega) (by unfold iSub;omega),qbm (n:=iAdd (qgv g.1 m) 1) (by unfold iAdd;omega) (by unfold iAdd;omega),show (Int.negSucc 0) = -1 from rfl]
 have hg:qnC u g=(wi g.1 0 99&&(wi g.2.1 (-1) (iSub u.2.2.1 1)&&wi g.2.2 0 20)):=rfl
 rw[hg]
 unfold iAdd
 by_cases e:qgv g.1 m=0
 ·rw[qbn (show qgv g.1 m+1=1 by omega),decide_eq_true e]
  cases wi g.1 0 99<;>cases wi g.2.1 (-1) (iSub u.2.2.1 1)<;>cases wi g.2.2 0 20<;>rfl
 ·rw[qdT (show qgv g.1 m+1≠1 by omega),decide_eq_false e,Bool.and_false]
  cases wi g.1 0 99<;>rfl
theorem qGd(n:Nat)(u:Uni)(l:List qlN)(hc:-1000≤u.2.2.1∧u.2.2.1≤1000)(hl:l.length≤1000):∀(B A:List qlN) (m:Cnt) (n':Nat),l=A++B→(A.map (·.1)).Nodup→(∀x,qgv x m=if x∈A.map (·.1) then 1 else 0)→B.length<n' →
  ∃(m':Cnt) (j:Nat),qb n' (qbc n) (l,((l.length:Int),((A.length:Int),(m,(u,())))))=some (cond (B.all (qnC u)&&decide ((l.map (·.1)).Nodup)) (.inl (m',(u,()))) (.inr ((j:Int),(m',(u,()))))):=by
 intro B
 induction B with
 | nil =>
  intro A m n' hq hA hm hn'
  obtain ⟨n',rfl⟩:∃m,n'=m+1:=⟨n'-1,by omega⟩
  rw[List.append_nil] at hq
  refine ⟨m,0,?_⟩
  rw[qc,qb9]
  simp only[hq,ql,cond_false,List.all_nil,Bool.true_and,decide_eq_true hA]
  rfl
 | cons x B ih =>
  intro A m n' hq hA hm hn'
  obtain ⟨n',rfl⟩:∃m,n'=m+1:=⟨n'-1,by omega⟩
  have hAl:A.length<l.length:=by rw[hq];simp
  have hx:l[A.length]?=some x:=by rw[hq];simp
  have hv:=hm x.1
  have hv2:0≤qgv x.1 m∧qgv x.1 m≤1000:=by rw[hv];split<;>omega
  rw[qc,qb9]
  simp only[qk hAl,cond_true,qfj,hx,Option.bind_some,qk0,qGc n u x m hc hv2]
  rw[List.all_cons]
  cases hg:qnC u x with
  | false=>exact ⟨_,A.length,rfl⟩
  | true =>
   simp only[Bool.true_and]
   by_cases e:x.1∈A.map (·.1)
   ·have hnd:¬(l.map (·.1)).Nodup:=fun hnd=>by
     rw[hq,List.map_append,List.map_cons,List.nodup_append] at hnd
     exact hnd.2.2 x.1 e x.1 List.mem_cons_self rfl
    rw[decide_eq_false hnd,Bool.and_false,hv,if_pos e]
    exact ⟨_,A.length,rfl⟩
   ·rw[if_neg e] at hv
    rw[hv]
    simp only[decide_true,Bool.not_true,cond_false,qg (show A.length<9223372036854775807 by omega)]
    have:=ih (A++[x]) (qqb x.1 (0+1) m) n' (by rw[hq];simp) (by
     rw[List.map_append,List.nodup_append]
     refine ⟨hA,by simp,fun a ha b hb=>?_⟩
     simp only[List.map_cons,List.map_nil,List.mem_singleton] at hb
     subst hb
     exact fun h=>e (h ▸ ha)) (fun z=>by
     rw[qxd,hm z]
     by_cases hz:z=x.1
     ·rw[if_pos hz,if_pos (by rw[hz];simp)];rfl
     ·rw[if_neg hz]
      by_cases hz2:z∈A.map (·.1)
      ·rw[if_pos hz2,if_pos (by rw[List.map_append];exact List.mem_append_left _ hz2)]
      ·rw[if_neg hz2,if_neg (by
        rw[List.map_append]
        intro h
        rcases List.mem_append.1 h with h | h
        ·exact hz2 h
        ·simp only[List.map_cons,List.map_nil,List.mem_singleton] at h;exact hz h)]) (by simp at hn';omega)
    rw[List.length_append,List.length_cons,List.length_nil,Nat.zero_add] at this
    exact this
theorem qCH(n:Nat)(u:Uni)(l:List qlN)(hc:-1000≤u.2.2.1∧u.2.2.1≤1000)(hl:l.length≤1000)(hn:2000≤n):∃m',qen n (l,([],(u,())))=some (qhU u l,(m',(u,()))):=by
 rw[qlI,qeR,qe8]
 obtain ⟨m',j,h⟩:=qGd n u l hc hl l [] [] n rfl List.nodup_nil (fun x=>by simp[qgv]) (by omega)
 refine ⟨m',?_⟩
 show Option.bind (Option.bind (Option.bind (qb n _ (l,((l.length:Int),((([]:List qlN).length:Int),([],(u,())))))) _) _) _=_
 rw[h]
 unfold qhU
 cases l.all (qnC u)&&decide ((l.map (·.1)).Nodup) with
 | true=>rfl
 | false =>
  show some (!iGe (j:Int) 0,(m',(u,())))=_
  rw[show iGe (j:Int) 0=true from decide_eq_true (by omega)]
  rfl
theorem qxe(n:Nat)(u:Uni)(hs:Small11 u)(hn:5000≤n):qlW n (u,())=some (chkU u,()):=by
 have a1:=hs.hu;have a2:=hs.ms;have a3:=hs.fe;have a4:=hs.sh;have a5:=hs.gu;have a6:=hs.ri;have a7:=hs.wo
 rw[qs0]
 show Option.bind (qiW n (u.1,(u.2.1,()))) _=_
 rw[qF1 n u.1 u.2.1 hs.near (by omega),Option.bind_some]
 unfold chkU
 by_cases hk:chkN u.1 u.2.1=0
 ·rw[if_pos hk,qc3 hk]
  simp only[cond_false,qlO,Option.bind_some]
  unfold uniB
  cases hw:wi u.2.2.1 1 6 with
  | false=>rfl
  | true =>
   have hc:=qca.1 hw
   simp only[Bool.not_true,cond_false,Bool.true_and]
   by_cases e1:u.2.2.2.1.length=u.1.1.length
   ·rw[qc3 (show (u.2.2.2.1.length:Int)=u.1.1.length by omega),decide_eq_true e1]
    simp only[cond_false,Bool.true_and]
    rw[qF7 n u.2.2.2.1 (fun x=>wi x 0 100000) (fun x _=>by rw[qos,qF5];rfl) (by omega) (by omega),Option.bind_some]
    by_cases e2:u.2.2.2.2.1.length=u.1.1.length
    ·rw[qc3 (show (u.2.2.2.2.1.length:Int)=u.1.1.length by omega),decide_eq_true e2]
     simp only[cond_false,Bool.true_and]
     rw[qF8 n u.2.2.2.2.1 (u,()) (rowB u) (fun r hr=>by rw[qmW,qF9 n u r (by have:=hs.rl r hr;omega) (by omega)];rfl) (by omega) (by omega)]
     simp only[Option.bind_some]
     obtain ⟨m',hg⟩:=qCH n u u.2.2.2.2.2.1 (by omega) (by omega) (by omega)
     rw[hg]
     simp only[Option.bind_some]
     rw[qDf n u.2.2.2.2.2.2.1 (u,()) (qnD u) (fun r _=>by rw[qhd,qGa n u r (by omega)];rfl) (by omega) (by omega)]
     simp only[Option.bind_some]
     rw[qEN n u.2.2.2.2.2.2.2.1 (u,()) (qqa u) (fun w _=>by rw[qhk,qGb n u w (by omega) (by omega)];rfl) (by omega) (by omega)]
     simp only[Option.bind_some,qzF,qF5]
     by_cases e3:u.2.2.2.2.2.1.length≤40
     ·by_cases e4:u.2.2.2.2.2.2.1.length≤12
      ·by_cases e5:u.2.2.2.2.2.2.2.1.length≤20
       ·rw[show iGt (u.2.2.2.2.2.1.length:Int) 40=false from decide_eq_false (by omega),show iGt (u.2.2.2.2.2.2.1.length:Int) 12=false from decide_eq_false (by omega),show iGt (u.2.2.2.2.2.2.2.1.length:Int) 20=false from decide_eq_false (by omega),decide_eq_true e3,decide_eq_true e4,decide_eq_true e5]
        cases u.2.2.2.1.all (fun x=>wi x 0 100000) with
        | false=>cases qhU u u.2.2.2.2.2.1<;>rfl
        | true =>
         cases u.2.2.2.2.1.all (rowB u) with
         | false=>cases qhU u u.2.2.2.2.2.1<;>rfl
         | true =>
          cases qhU u u.2.2.2.2.2.1 with
          | false=>rfl
          | true =>
           cases u.2.2.2.2.2.2.1.all (qnD u) with
           | false=>rfl
           | true =>
            cases u.2.2.2.2.2.2.2.1.all (qqa u) with
            | false=>rfl
            | true =>
             cases wi u.2.2.2.2.2.2.2.2.1 0 100<;>cases wi u.2.2.2.2.2.2.2.2.2.1 0 100<;>cases wi u.2.2.2.2.2.2.2.2.2.2.1 0 100000<;>cases wi u.2.2.2.2.2.2.2.2.2.2.2 0 100000<;>rfl
       ·rw[show iGt (u.2.2.2.2.2.2.2.1.length:Int) 20=true from decide_eq_true (by omega),decide_eq_false e5]
        cases u.2.2.2.1.all (fun x=>wi x 0 100000)<;>cases u.2.2.2.2.1.all (rowB u)<;>cases iGt (u.2.2.2.2.2.1.length:Int) 40<;>cases qhU u u.2.2.2.2.2.1<;>cases iGt (u.2.2.2.2.2.2.1.length:Int) 12<;>cases decide (u.2.2.2.2.2.1.length≤40)<;>cases decide (u.2.2.2.2.2.2.1.length≤12)<;>cases u.2.2.2.2.2.2.1.all (qnD u)<;>rfl
      ·rw[show iGt (u.2.2.2.2.2.2.1.length:Int) 12=true from decide_eq_true (by omega),decide_eq_false e4]
       cases u.2.2.2.1.all (fun x=>wi x 0 100000)<;>cases u.2.2.2.2.1.all (rowB u)<;>cases iGt (u.2.2.2.2.2.1.length:Int) 40<;>cases qhU u u.2.2.2.2.2.1<;>cases decide (u.2.2.2.2.2.1.length≤40)<;>rfl
     ·rw[show iGt (u.2.2.2.2.2.1.length:Int) 40=true from decide_eq_true (by omega),decide_eq_false e3]
      cases u.2.2.2.1.all (fun x=>wi x 0 100000)<;>cases u.2.2.2.2.1.all (rowB u)<;>cases qhU u u.2.2.2.2.2.1<;>rfl
    ·rw[qf3 (show (u.2.2.2.2.1.length:Int)≠u.1.1.length by omega),decide_eq_false e2]
     cases u.2.2.2.1.all (fun x=>wi x 0 100000)<;>rfl
   ·rw[qf3 (show (u.2.2.2.1.length:Int)≠u.1.1.length by omega),decide_eq_false e1];rfl
 ·rw[if_neg hk,qf3 hk];rfl
end Go.Proofs.YtlmicgmhallkkaaGreatDoor
