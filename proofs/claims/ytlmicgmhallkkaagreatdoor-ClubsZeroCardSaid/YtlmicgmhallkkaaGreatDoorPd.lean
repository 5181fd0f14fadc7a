/- Texts Dp17, Dp18, Dc0, Dc1, Dc2, Dc3 in one. -/
import Derived.Test.YtlmicgmhallkkaaGreatDoorPc
import Derived.Test.YtlmicgmhallkkaaGreatDoorQa
/- Beds, plain: Check of whatever there is. -/
set_option linter.constructorNameAsVariable false
set_option linter.unusedSimpArgs false
set_option linter.unusedVariables false
set_option linter.unusedSectionVars false
namespace Go.Proofs.YtlmicgmhallkkaaGreatDoor
open Go Go.Proofs Go.RowKit
set_option maxHeartbeats 1000000
def quR(x y:Msg):Bool:=decide (y.2.1=x.2.1)&&decide (y.1=x.1)
def adjK:List Msg→Bool
 | x::y::l=>quR x y||adjK (y::l)
 | _=>false
theorem qxV:∀(q:List Msg),adjK q=true↔∃i,∃h:i+1<q.length,quR q[i] q[i+1]=true
 | []=>by simp[adjK]
 | [x]=>by simp[adjK]
 | x::y::l=>by
  unfold adjK
  rw[Bool.or_eq_true,qxV (y::l)]
  constructor
  ·rintro (h | ⟨i,h1,h2⟩)
   ·exact ⟨0,by simp,h⟩
   ·exact ⟨i+1,by simpa using h1,by simpa using h2⟩
  ·rintro ⟨i,h1,h2⟩
   cases i with
   | zero=>exact .inl h2
   | succ i=>exact .inr ⟨i,by simpa using h1,by simpa using h2⟩
theorem qDf(n:Nat)(q:List Msg)(hl:q.length≤1000):∀(B A:List Msg) (p:Msg) (n':Nat),q=A++p::B→B.length<n' →
  qb n' (qmp n) (q,(q,((q.length:Int),(((A.length+1:Nat):Int),()))))=some (cond (adjK (p::B)) (.inr (true,())) (.inl ())):=by
 intro B
 induction B with
 | nil =>
  intro A p n' hq hn
  obtain ⟨n',rfl⟩:∃m,n'=m+1:=⟨n'-1,by omega⟩
  have e:A.length+1=q.length:=by rw[hq];simp
  rw[qc,qgr]
  simp only[e,qB,cond_false]
  rfl
 | cons y B ih =>
  intro A p n' hq hn
  simp only[List.length_cons] at hn
  obtain ⟨n',rfl⟩:∃m,n'=m+1:=⟨n'-1,by omega⟩
  have e:A.length+1<q.length:=by rw[hq];simp
  have e1:q[A.length+1]?=some y:=by rw[hq];exact app1 _ _ _ _
  have e0:q[A.length]?=some p:=by rw[hq];exact app0 _ _ _ _
  have ih':=ih (A++[p]) y n' (by rw[hq];simp) (by omega)
  rw[List.length_append,List.length_singleton] at ih'
  rw[qc,qgr]
  simp only[qy e,cond_true,qis,e1,qqV,qmt (show A.length<9223372036854775807 by omega),e0,Option.bind_some,qj (show A.length+1<9223372036854775807 by omega)]
  unfold adjK quR
  by_cases h1:y.2.1=p.2.1
  ·rw[qbT h1]
   by_cases h2:y.1=p.1
   ·rw[qbT h2];simp[h1,h2]
   ·rw[qfh h2];simp only[cond_true,cond_false,h2,decide_false,Bool.and_false,Bool.false_or];exact ih'
  ·rw[qfh h1];simp only[cond_false,h1,decide_false,Bool.false_and,Bool.false_or];exact ih'
theorem qDg(n:Nat)(q:List Msg)(hl:q.length≤1000)(hn:2000≤n):qn9 n (q,())=some (adjK q,()):=by
 rw[qrC]
 obtain ⟨n,rfl⟩:∃m,n=m+1:=⟨n-1,by omega⟩
 cases q with
 | nil =>
  rw[qc,qgr]
  rfl
 | cons p B =>
  have h:=qDf (n+1) (p::B) hl B [] p n rfl (by simp at hl;omega)
  simp only[List.length_nil,Nat.zero_add] at h
  have e:(0:Int)<((p::B).length:Int):=by rw[List.length_cons];omega
  rw[qc,qgr]
  simp only[show iLt 0 ((p::B).length:Int)=true from decide_eq_true e,cond_true,qwe,Option.bind_some,show iGt 0 0=false from rfl,cond_false]
  rw[show iW (iAdd 0 1)=((1:Nat):Int) from rfl,h]
  cases adjK (p::B)<;>rfl
theorem qB2{l:List Msg}(hk:∀m,m∈l→m.1=1∨m.1=2):adjK (qex l)=qiR l:=by
 have hs:(qex l).Pairwise (fun a b=>key1 a≤key1 b):=by
  have h1:=qqY (fun x y=>decide (cmpM x y<0)) key1 l fun x y hx hy=>by
   have:=qz8 (hk x hx) (hk y hy)
   simpa using this
  exact h1.sublist (quP _)
 have hadj:=qqW (qka (fun x y=>decide (cmpM x y<0)) l)
 have hkd:∀m,m∈qex l→m.1=1∨m.1=2:=fun m hm=>hk m (qgA.1 hm)
 cases hc:qiR l with
 | false =>
  rw[← Bool.not_eq_true]
  intro h
  obtain ⟨i,h1,h2⟩:=(qxV _).1 h
  unfold quR at h2
  simp only[Bool.and_eq_true,decide_eq_true_eq] at h2
  exact qxQ _ hadj i h1 (qog hc _ _ (qgA.1 (List.getElem_mem _)) (qgA.1 (List.getElem_mem _)) h2.1 h2.2)
 | true =>
  have hne:¬∀x y,x∈l→y∈l→x.2.1=y.2.1→x.1=y.1→x=y:=fun h=>by rw[qyF h] at hc;cases hc
  have:∃x y,x∈l∧y∈l∧x.2.1=y.2.1∧x.1=y.1∧x≠y:=by
   refine Classical.byContradiction fun h=>hne fun x y hx hy h1 h2=>Classical.byContradiction fun h3=>h ⟨x,y,hx,hy,h1,h2,h3⟩
  obtain ⟨x,y,hx,hy,h1,h2,h3⟩:=this
  have key:∀i j (hi:i<(qex l).length) (hj:j<(qex l).length),i<j→key1 (qex l)[i]=key1 (qex l)[j]→adjK (qex l)=true:=fun i j hi hj hij e=>by
   rw[List.pairwise_iff_getElem] at hs
   have e1:=hs i (i+1) hi (by omega) (by omega)
   have e2:key1 (qex l)[i+1]≤key1 (qex l)[j]:=by
    rcases Nat.lt_or_ge (i+1) j with h | h
    ·exact hs (i+1) j (by omega) hj h
    ·have:j=i+1:=by omega
     subst this;exact Int.le_refl _
   refine (qxV _).2 ⟨i,by omega,?_⟩
   have k1:=hkd (qex l)[i] (List.getElem_mem _)
   have k2:=hkd (qex l)[i+1] (List.getElem_mem _)
   unfold key1 at e e1 e2
   unfold quR
   simp only[Bool.and_eq_true,decide_eq_true_eq]
   omega
  obtain ⟨i,hi,ei⟩:=List.mem_iff_getElem.1 (qgA.2 hx)
  obtain ⟨j,hj,ej⟩:=List.mem_iff_getElem.1 (qgA.2 hy)
  have ek:key1 (qex l)[i]=key1 (qex l)[j]:=by rw[ei,ej];unfold key1;omega
  rcases Nat.lt_trichotomy i j with h | h | h
  ·exact key i j hi hj h ek
  ·subst h;exact absurd (ei.symm.trans ej) h3
  ·exact key j i hj hi h ek.symm
structure Near (c:Chn) (l:List Msg):Prop where
 st:∀m,m∈l→m.2.2.2.2.length≤20
 hu:c.1.length≤20
 ln:l.length≤9∨(40<l.length∧l.length≤60)
theorem qDh{c:Chn}{l:List Msg}(h:farB c l=false):Near c l:=by
 obtain ⟨h1,h2⟩:=qBW h
 refine ⟨h1,h2,?_⟩
 unfold farB at h
 simp only[Bool.or_eq_false_iff,Bool.and_eq_false_iff,decide_eq_false_iff_not] at h
 omega
theorem qDi(n:Nat)(c:Chn)(l:List Msg)(V:Near c l)(hn:2000≤n):qiI n (c,(l,()))=some (chkN c l,()):=by
 have hu:=V.hu
 have hs:∀z,z∈l→z.2.2.2.2.length≤1000:=fun z hz=>by have:=V.st z hz;omega
 rw[qrD,qFu n c (by omega) hn]
 unfold chkN
 cases hc:qd2 c with
 | false=>rfl
 | true =>
  obtain ⟨h1,h2,h3,h4⟩:=qrJ hc
  simp only[Option.bind_some,Bool.not_true,cond_false,cond_true]
  rw[qmc]
  by_cases hl:l.length≤40
  ·have hl9:l.length≤9:=by rcases V.ln with h | h<;>omega
   obtain ⟨u,hu⟩:=qsK n c l (by omega) (by omega) (by omega) (by omega) hs hn
   have c1:iGt (l.length:Int) 40=false:=decide_eq_false (by omega)
   simp only[c1,cond_false,hu,Option.bind_some,hl,decide_true,Bool.and_true]
   rw[show (l.any fun m=>!mesB c m) = !l.all (mesB c) by simp[List.all_eq_not_any_not]]
   cases hm:l.all (mesB c) with
   | false=>rfl
   | true =>
    have hk:∀m,m∈l→m.1=1∨m.1=2:=fun m h=>by rw[List.all_eq_true] at hm;exact (qxU (hm m h)).1
    simp only[Bool.not_true,cond_false,qrY n l (by omega) hs hn,Option.bind_some,qDg n (qex l) (by have:=qrI l;omega) hn,qB2 hk,cond_true]
    cases qiR l<;>rfl
  ·have c1:iGt (l.length:Int) 40=true:=decide_eq_true (by omega)
   simp only[c1,cond_true,hl,decide_false,Bool.and_false,cond_false]
   rfl
theorem qtx{nh nn:Int}:∀{ss:List Stay} {last:Int},qiQ nh nn last ss=true→-1≤last→∀s,s∈ss→(0≤s.1∧s.1≤nh-1)∧0≤s.2.1∧s.2.2<nn∧s.2.1≤s.2.2
 | [],_,_,_,s,hs=>by cases hs
 | z::ss,last,h,hl,s,hs=>by
  unfold qiQ at h
  simp only[Bool.and_eq_true,qbO,decide_eq_true_eq] at h
  rcases List.mem_cons.1 hs with rfl | hs
  ·omega
  ·exact qtx h.2 (by omega) s hs
structure RefOk (c:Chn) (m:Msg):Prop where
 ok:MsgOk c m
 st:qiQ c.1.length c.2 (-1) m.2.2.2.2=true
 ln:m.2.2.2.2.length≤20
abbrev qlL:=Int×(Int×Int)
abbrev qxh:=Int×Int
abbrev Work:=Int×(Int×Int)
abbrev Uni:=Chn×(List Msg×(Int×(List Int×(List (List Int)×(List qlL×(List qxh×(List Work×(Int×(Int×(Int×Int))))))))))
theorem qik(n:Nat)(a lo hi:Int):qE n (a,(lo,(hi,())))=some (wi a lo hi,()):=by
 rw[qqT]
 show cond (iGe a lo) (some ((iLe a hi),())) (some (false,()))=_
 unfold wi iGe iLe
 by_cases h:a≥lo
 ·rw[decide_eq_true h];rfl
 ·rw[decide_eq_false h];rfl
def shB(l:List Int):Bool:=l.all (fun x=>wi x 0 100)&&decide (l.sum=100)
theorem qGU{l:List Int}(h:∀x,x∈l→0≤x∧x≤100):0≤l.sum∧l.sum≤100*l.length:=by
 induction l with
 | nil=>simp
 | cons x l ih =>
  have h1:=h x List.mem_cons_self
  have h2:=ih fun y hy=>h y (List.mem_cons_of_mem _ hy)
  simp only[List.sum_cons,List.length_cons]
  omega
theorem qAe(n:Nat)(l:List Int)(hl:l.length≤1000)(hn:2000≤n):qiO n (l,())=some (shB l&&wi (l.length:Int) 1 6,()):=by
 rw[qpz]
 have key:∀(B A:List Int) (n':Nat),l=A++B→(∀x,x∈A→0≤x∧x≤100)→B.length<n'→qb n' (qhV n) (l,(A.sum,((A.length:Int),())))=some (cond (B.all fun x=>wi x 0 100) (.inl (l,(l.sum,()))) (.inr (false,()))):=by
  intro B
  induction B with
  | nil =>
   intro A n' hq hA hn'
   obtain ⟨n',rfl⟩:∃m,n'=m+1:=⟨n'-1,by omega⟩
   rw[List.append_nil] at hq
   rw[qc,qjW]
   simp only[hq,qB,cond_false]
   rfl
  | cons x B ih =>
   intro A n' hq hA hn'
   obtain ⟨n',rfl⟩:∃m,n'=m+1:=⟨n'-1,by omega⟩
   have hAl:A.length<l.length:=by rw[hq];simp
   have hx:l[A.length]?=some x:=by rw[hq];simp
   have hsum:=qGU hA
   rw[qc,qjW]
   simp only[qy hAl,cond_true,qis,hx,Option.bind_some,qik]
   rw[List.all_cons]
   cases hw:wi x 0 100 with
   | false=>rfl
   | true =>
    have hx2:=qbO.1 hw
    simp only[Bool.not_true,cond_false,Bool.true_and]
    rw[show iW (iAdd A.sum x)=(A++[x]).sum by rw[qbc (by unfold iAdd;omega) (by unfold iAdd;omega)];simp,qj (by omega),show A.length+1=(A++[x]).length by simp]
    exact ih (A++[x]) n' (by rw[hq];simp) (fun y hy=>by
     rcases List.mem_append.1 hy with hy | hy
     ·exact hA y hy
     ·rw[List.mem_singleton] at hy;rw[hy];exact hx2) (by simp at hn';omega)
 have h:=key l [] n rfl (fun x hx=>by cases hx) (by omega)
 show Option.bind (qb n _ (l,((([]:List Int).sum),((([]:List Int).length:Int),())))) _=_
 rw[h]
 unfold shB
 cases l.all fun x=>wi x 0 100 with
 | false=>rfl
 | true =>
  simp only[cond_true,Option.bind_some,Sum.elim_inl,Bool.true_and,qik,Int.ofNat_eq_natCast]
  by_cases e:l.sum=100
  ·rw[qbT e,decide_eq_true e];rfl
  ·rw[qfh e,decide_eq_false e];rfl
def qlM(u:Uni)(x:Int):Bool:=wi x 0 (u.2.2.1-1)
theorem qyH(n:Nat)(u:Uni)(x:Int)(hc:-1000≤u.2.2.1∧u.2.2.1≤1000):qfV n (u,(x,()))=some (qlM u x,()):=by
 rw[qqU]
 show Option.bind (qE n (x,((0:Int),(iW (iSub u.2.2.1 1),())))) _=_
 rw[qbc (by unfold iSub;omega) (by unfold iSub;omega),qik]
 rfl
def qmf(u:Uni)(g:qlL):Bool:=wi g.1 0 99&&(wi g.2.1 (-1) (u.2.2.1-1)&&wi g.2.2 0 20)
def qhK(u:Uni)(l:List qlL):Bool:=l.all (qmf u)&&decide ((l.map (·.1)).Nodup)
theorem qyY(n:Nat)(u:Uni)(i:Nat)(g:qlL)(hi:i<u.2.2.2.2.2.1.length)(hg:u.2.2.2.2.2.1[i]=g)(hl:u.2.2.2.2.2.1.length≤1000)(hn:2000≤n) :
  qb n (qfx n) ((i:Int),((0:Int),(u,(g,()))))=some (cond ((u.2.2.2.2.2.1.take i).any fun x=>decide (x.1=g.1)) (.inr (false,())) (.inl ((i:Int),(u,())))):=by
 have hti:(u.2.2.2.2.2.1.take i).length=i:=by simp;omega
 exact qme (step:=qfx n) (u.2.2.2.2.2.1.take i) (fun k=>((i:Int),((k:Int),(u,(g,()))))) (fun x=>decide (x.1=g.1)) (.inr (false,())) (.inl ((i:Int),(u,()))) (fun rec k hk=>by
  have hk':k<i:=by omega
  rw[qjX]
  simp only[qy hk',cond_true,qr _ (show k<u.2.2.2.2.2.1.length by omega),Option.bind_some,qj (show k<9223372036854775807 by omega),List.getElem_take]
  by_cases e:(u.2.2.2.2.2.1[k]).1=g.1
  ·rw[qbT e,decide_eq_true e]
  ·rw[qfh e,decide_eq_false e]) (fun rec=>by
  rw[hti,qjX]
  simp only[qB,cond_false]) (n:=n) (by omega)
theorem qAf(n:Nat)(u:Uni)(hc:-1000≤u.2.2.1∧u.2.2.1≤1000)(hl:u.2.2.2.2.2.1.length≤1000)(hn:2000≤n):qiP n (u,())=some (qhK u u.2.2.2.2.2.1&&decide (u.2.2.2.2.2.1.length≤40),()):=by
 rw[qpA]
 obtain ⟨l,hL⟩:∃l,l=u.2.2.2.2.2.1:=⟨_,rfl⟩
 have key:∀(B A:List qlL) (n':Nat),l=A++B→(A.map (·.1)).Nodup→B.length<n'→qb n' (qhW n) ((A.length:Int),(u,()))=some (cond (B.all (qmf u)&&decide ((l.map (·.1)).Nodup)) (.inl (u,())) (.inr (false,()))):=by
  intro B
  induction B with
  | nil =>
   intro A n' hq hA hn'
   obtain ⟨n',rfl⟩:∃m,n'=m+1:=⟨n'-1,by omega⟩
   rw[List.append_nil] at hq
   rw[qc,qjY]
   simp only[← hL,hq,qB,cond_false,List.all_nil,Bool.true_and,decide_eq_true hA]
   rfl
  | cons x B ih =>
   intro A n' hq hA hn'
   obtain ⟨n',rfl⟩:∃m,n'=m+1:=⟨n'-1,by omega⟩
   have hAl:A.length<l.length:=by rw[hq];simp
   have hx:l[A.length]?=some x:=by rw[hq];simp
   have hxe:l[A.length]=x:=by rw[List.getElem?_eq_getElem hAl] at hx;injection hx
   have htk:l.take A.length=A:=by rw[hq];simp
   have hll:l.length≤1000:=by rw[hL];exact hl
   rw[qc,qjY]
   simp only[← hL,qy hAl,cond_true,qis,hx,Option.bind_some,qik,qbc (n:=iSub u.2.2.1 1) (by unfold iSub;omega) (by unfold iSub;omega),show (Int.negSucc 0) = -1 from rfl]
   rw[List.all_cons]
   have h1:=qyY n u A.length x (by rw[← hL];exact hAl) (by subst hL;exact hxe) hl hn
   rw[← hL,htk] at h1
   have hg:qmf u x=(wi x.1 0 99&&(wi x.2.1 (-1) (iSub u.2.2.1 1)&&wi x.2.2 0 20)):=rfl
   cases h2:wi x.1 0 99 with
   | false=>rw[hg,h2];rfl
   | true =>
    cases h3:wi x.2.1 (-1) (iSub u.2.2.1 1) with
    | false=>rw[hg,h2,h3];rfl
    | true =>
     cases h4:wi x.2.2 0 20 with
     | false=>rw[hg,h2,h3,h4];rfl
     | true =>
      rw[hg,h2,h3,h4]
      simp only[Bool.not_true,cond_false,Bool.true_and,h1]
      cases ha:A.any fun y=>decide (y.1=x.1) with
      | true =>
       obtain ⟨y,hy,hyx⟩:=List.any_eq_true.1 ha
       have hnd:¬(l.map (·.1)).Nodup:=fun hnd=>by
        rw[hq,List.map_append,List.map_cons,List.nodup_append] at hnd
        exact hnd.2.2 y.1 (List.mem_map_of_mem hy) x.1 List.mem_cons_self (of_decide_eq_true hyx)
       rw[decide_eq_false hnd,Bool.and_false]
       rfl
      | false =>
       simp only[cond_false,Option.bind_some,Sum.elim_inl,qj (show A.length<9223372036854775807 by omega)]
       have:=ih (A++[x]) n' (by rw[hq];simp) (by
        rw[List.map_append,List.nodup_append]
        refine ⟨hA,by simp,fun a ha' b hb=>?_⟩
        obtain ⟨y,hy,rfl⟩:=List.mem_map.1 ha'
        simp only[List.map_cons,List.map_nil,List.mem_singleton] at hb
        rw[hb]
        rw[List.any_eq_false] at ha
        have:=ha y hy
        simpa using this) (by simp at hn';omega)
       rw[List.length_append,List.length_cons,List.length_nil,Nat.zero_add] at this
       exact this
 have h:=key l [] n rfl List.nodup_nil (by rw[hL];omega)
 rw[show (((0:Int),(u,())):Int×(Uni×Unit))=((([]:List qlL).length:Int),(u,())) from rfl,h]
 unfold qhK
 rw[← hL]
 cases l.all (qmf u)&&decide ((l.map (·.1)).Nodup) with
 | false=>rfl
 | true =>
  simp only[cond_true,Option.bind_some,Sum.elim_inl,Bool.true_and,← hL]
  by_cases e:l.length≤40
  ·rw[show iLe (l.length:Int) 40=true from decide_eq_true (by omega),decide_eq_true e]
  ·rw[show iLe (l.length:Int) 40=false from decide_eq_false (by omega),decide_eq_false e]
def qmg(u:Uni)(r:qxh):Bool:=qlM u r.1&&qlM u r.2
def qoi(u:Uni)(w:Work):Bool:=qlM u w.1&&(wi w.2.1 0 ((u.1.1.length:Int)-1)&&wi w.2.2 0 20)
def rowB(u:Uni)(r:List Int):Bool:=decide ((r.length:Int)=u.2.2.1)&&shB r
def uniB(u:Uni):Bool:=wi u.2.2.1 1 6&&(decide (u.2.2.2.1.length=u.1.1.length)&&(decide (u.2.2.2.2.1.length=u.1.1.length)&&(qhK u u.2.2.2.2.2.1&&(decide (u.2.2.2.2.2.1.length≤40)&&(decide (u.2.2.2.2.2.2.1.length≤12)&&(decide (u.2.2.2.2.2.2.2.1.length≤20)&&(u.2.2.2.1.all (fun x=>wi x 0 100000)&&(u.2.2.2.2.1.all (rowB u)&&(u.2.2.2.2.2.2.1.all (qmg u)&&(u.2.2.2.2.2.2.2.1.all (qoi u)&&(wi u.2.2.2.2.2.2.2.2.1 0 100&&(wi u.2.2.2.2.2.2.2.2.2.1 0 100&&(wi u.2.2.2.2.2.2.2.2.2.2.1 0 100000&&wi u.2.2.2.2.2.2.2.2.2.2.2 0 100000)))))))))))))
def chkU(u:Uni):Int:=if chkN u.1 u.2.1=0 then cond (uniB u) 0 110 else chkN u.1 u.2.1
theorem qBk{α β:Type}(p:α→Bool)(q:β→Bool):∀(a:List α) (b:List β),a.length=b.length→(List.zip a b).all (fun x=>p x.1&&q x.2)=(a.all p&&b.all q)
 | [],[],_=>rfl
 | [],_::_,h=>by simp at h
 | _::_,[],h=>by simp at h
 | x::a,y::b,h=>by
  rw[List.zip_cons_cons,List.all_cons,List.all_cons,List.all_cons,qBk p q a b (by simpa using h)]
  cases p x<;>cases q y<;>cases a.all p<;>cases b.all q<;>rfl
theorem qB3(n:Nat)(u:Uni)(hc:1≤u.2.2.1∧u.2.2.1≤6)(he:u.2.2.2.1.length=u.2.2.2.2.1.length)(hl:u.2.2.2.1.length≤1000)(hr:∀r,r∈u.2.2.2.2.1→r.length≤1000)(hn:2000≤n) :
  qb n (qfs n) ((0:Int),(u,()))=some (cond (u.2.2.2.1.all (fun x=>wi x 0 100000)&&u.2.2.2.2.1.all (rowB u)) (.inl (u,())) (.inr (110,()))):=by
 have hz:(List.zip u.2.2.2.1 u.2.2.2.2.1).length=u.2.2.2.1.length:=by rw[List.length_zip];omega
 have h:=qnB (step:=qfs n) (List.zip u.2.2.2.1 u.2.2.2.2.1) (fun k=>((k:Int),(u,()))) (fun x=>wi x.1 0 100000&&rowB u x.2) (.inl (u,())) (.inr (110,())) (fun rec k hk=>by
  have h1:k<u.2.2.2.1.length:=by omega
  have h2:k<u.2.2.2.2.1.length:=by omega
  have hrr:=hr _ (List.getElem_mem h2)
  rw[qlI,List.getElem_zip]
  simp only[qy h1,cond_true,qr _ h1,qr _ h2,Option.bind_some,qik,qAe n _ hrr hn,qj (show k<9223372036854775807 by omega)]
  cases wi (u.2.2.2.1[k]) 0 100000 with
  | false=>rfl
  | true =>
   simp only[Bool.not_true,cond_false,Bool.true_and]
   unfold rowB
   by_cases e:((u.2.2.2.2.1[k]).length:Int)=u.2.2.1
   ·rw[qc2 e,decide_eq_true e,show wi ((u.2.2.2.2.1[k]).length:Int) 1 6=true by rw[e];exact qbO.2 hc]
    simp only[cond_false,Bool.and_true,Bool.true_and]
    cases shB (u.2.2.2.2.1[k])<;>rfl
   ·rw[qkb e,decide_eq_false e];rfl) (fun rec=>by
  rw[hz,qlI]
  simp only[qB,cond_false]) (n:=n) (by omega)
 have h':qb n (qfs n) ((0:Int),(u,()))=_:=h
 rw[h',qBk (fun x=>wi x 0 100000) (rowB u) _ _ he]
theorem qB4(n:Nat)(u:Uni)(hc:1≤u.2.2.1∧u.2.2.1≤6)(hl:u.2.2.2.2.2.2.1.length≤1000)(hn:2000≤n) :
  qb n (qhc n) ((0:Int),(u,()))=some (cond (u.2.2.2.2.2.2.1.all (qmg u)) (.inl (u,())) (.inr (110,()))):=by
 exact qnB (step:=qhc n) u.2.2.2.2.2.2.1 (fun k=>((k:Int),(u,()))) (qmg u) (.inl (u,())) (.inr (110,())) (fun rec k hk=>by
  rw[qlJ]
  simp only[qy hk,cond_true,qr _ hk,Option.bind_some,qyH n u _ (by omega),qj (show k<9223372036854775807 by omega)]
  unfold qmg
  cases qlM u (u.2.2.2.2.2.2.1[k]).1<;>cases qlM u (u.2.2.2.2.2.2.1[k]).2<;>rfl) (fun rec=>by
  rw[qlJ]
  simp only[qB,cond_false]) (n:=n) (by omega)
theorem qB5(n:Nat)(u:Uni)(hc:1≤u.2.2.1∧u.2.2.1≤6)(he:u.2.2.2.1.length=u.1.1.length)(hl:u.2.2.2.2.2.2.2.1.length≤1000)(hf:u.2.2.2.1.length≤1000)(hn:2000≤n) :
  qb n (qhd n) ((0:Int),(u,()))=some (cond (u.2.2.2.2.2.2.2.1.all (qoi u)) (.inl (u,())) (.inr (110,()))):=by
 exact qnB (step:=qhd n) u.2.2.2.2.2.2.2.1 (fun k=>((k:Int),(u,()))) (qoi u) (.inl (u,())) (.inr (110,())) (fun rec k hk=>by
  rw[qlK]
  simp only[qy hk,cond_true,qr _ hk,Option.bind_some,qyH n u _ (by omega),qik,qj (show k<9223372036854775807 by omega),qbc (n:=iSub (u.2.2.2.1.length:Int) 1) (by unfold iSub;omega) (by unfold iSub;omega)]
  unfold qoi
  rw[← he]
  show _=cond (_&&(wi _ 0 (iSub (u.2.2.2.1.length:Int) 1)&&_)) _ _
  cases qlM u (u.2.2.2.2.2.2.2.1[k]).1<;>cases wi (u.2.2.2.2.2.2.2.1[k]).2.1 0 (iSub (u.2.2.2.1.length:Int) 1)<;>cases wi (u.2.2.2.2.2.2.2.1[k]).2.2 0 20<;>rfl) (fun rec=>by
  rw[qlK]
  simp only[qB,cond_false]) (n:=n) (by omega)
structure Small11 (u:Uni):Prop where
 hu:u.1.1.length≤20
 ln:u.2.1.length≤9∨(40<u.2.1.length∧u.2.1.length≤60)
 st:∀m,m∈u.2.1→m.2.2.2.2.length≤20
 fe:u.2.2.2.1.length≤20
 sh:u.2.2.2.2.1.length≤20
 rl:∀r,r∈u.2.2.2.2.1→r.length≤20
 gu:u.2.2.2.2.2.1.length≤42
 ri:u.2.2.2.2.2.2.1.length≤14
 wo:u.2.2.2.2.2.2.2.1.length≤22
theorem Small11.ms{u:Uni}(h:Small11 u):u.2.1.length≤60:=by rcases h.ln with h | h<;>omega
theorem Small11.near{u:Uni}(h:Small11 u):Near u.1 u.2.1:=⟨h.st,h.hu,h.ln⟩
theorem qyZ(n:Nat)(u:Uni)(hs:Small11 u)(hn:5000≤n):qkU n (u,())=some (chkU u,()):=by
 have a1:=hs.hu;have a2:=hs.ms;have a3:=hs.fe;have a4:=hs.sh;have a5:=hs.gu;have a6:=hs.ri;have a7:=hs.wo
 rw[qre]
 have h0:=qEG n u.1 u.2.1 (by omega) (by omega) (fun m hm=>by have:=hs.st m hm;omega) (by omega)
 show Option.bind (qic n (u.1,(u.2.1,()))) _=_
 rw[h0,Option.bind_some]
 unfold chkU
 by_cases hk:chkN u.1 u.2.1=0
 ·rw[if_pos hk,qc2 hk]
  simp only[cond_false,qik,Option.bind_some]
  unfold uniB
  cases hw:wi u.2.2.1 1 6 with
  | false=>rfl
  | true =>
   have hc:=qbO.1 hw
   simp only[Bool.not_true,cond_false,Bool.true_and]
   by_cases e1:u.2.2.2.1.length=u.1.1.length
   ·rw[qc2 (show (u.2.2.2.1.length:Int)=u.1.1.length by omega),decide_eq_true e1]
    simp only[cond_false,Bool.true_and]
    by_cases e2:u.2.2.2.2.1.length=u.1.1.length
    ·rw[qc2 (show (u.2.2.2.2.1.length:Int)=u.1.1.length by omega),decide_eq_true e2]
     simp only[cond_false,Bool.true_and]
     rw[qAf n u (by omega) (by omega) (by omega),Option.bind_some]
     cases hg:(qhK u u.2.2.2.2.2.1&&decide (u.2.2.2.2.2.1.length≤40)) with
     | false =>
      rw[show ∀x y z:Bool,(x&&(y&&z))=((x&&y)&&z) from fun x y z=>(Bool.and_assoc x y z).symm,hg];rfl
     | true =>
      rw[show ∀x y z:Bool,(x&&(y&&z))=((x&&y)&&z) from fun x y z=>(Bool.and_assoc x y z).symm,hg]
      simp only[Bool.not_true,cond_false,Bool.true_and]
      by_cases e3:u.2.2.2.2.2.2.1.length≤12
      ·rw[show iGt (u.2.2.2.2.2.2.1.length:Int) 12=false from decide_eq_false (by omega),decide_eq_true e3]
       simp only[cond_false,Bool.true_and]
       by_cases e4:u.2.2.2.2.2.2.2.1.length≤20
       ·rw[show iGt (u.2.2.2.2.2.2.2.1.length:Int) 20=false from decide_eq_false (by omega),decide_eq_true e4]
        simp only[cond_false,Bool.true_and]
        rw[qB3 n u hc (by omega) (by omega) (fun r hr=>by have:=hs.rl r hr;omega) (by omega),Option.bind_some]
        cases h5:(u.2.2.2.1.all (fun x=>wi x 0 100000)&&u.2.2.2.2.1.all (rowB u)) with
        | false =>
         rw[← Bool.and_assoc,h5];rfl
        | true =>
         rw[← Bool.and_assoc,h5]
         simp only[cond_true,Sum.elim_inl,Bool.true_and,qB4 n u hc (by omega) (by omega),Option.bind_some]
         cases u.2.2.2.2.2.2.1.all (qmg u) with
         | false=>rfl
         | true =>
          simp only[cond_true,Sum.elim_inl,Bool.true_and,qB5 n u hc e1 (by omega) (by omega) (by omega),Option.bind_some]
          cases u.2.2.2.2.2.2.2.1.all (qoi u) with
          | false=>rfl
          | true =>
           simp only[cond_true,Sum.elim_inl,Bool.true_and,qik,Option.bind_some]
           cases wi u.2.2.2.2.2.2.2.2.1 0 100<;>cases wi u.2.2.2.2.2.2.2.2.2.1 0 100<;>cases wi u.2.2.2.2.2.2.2.2.2.2.1 0 100000<;>cases wi u.2.2.2.2.2.2.2.2.2.2.2 0 100000<;>rfl
       ·rw[show iGt (u.2.2.2.2.2.2.2.1.length:Int) 20=true from decide_eq_true (by omega),decide_eq_false e4];rfl
      ·rw[show iGt (u.2.2.2.2.2.2.1.length:Int) 12=true from decide_eq_true (by omega),decide_eq_false e3];rfl
    ·rw[qkb (show (u.2.2.2.2.1.length:Int)≠u.1.1.length by omega),decide_eq_false e2];rfl
   ·rw[qkb (show (u.2.2.2.1.length:Int)≠u.1.1.length by omega),decide_eq_false e1];rfl
 ·rw[if_neg hk,qkb hk];rfl
abbrev Cnt:=List (Int×Int)
def qgp(x:Int):Cnt→Int
 | []=>0
 | p::l=>if x=p.1 then p.2 else qgp x l
def qoj(x:Int)(v:Int):Cnt→Cnt
 | []=>[(x,v)]
 | p::l=>if x=p.1 then (p.1,v)::l else p::qoj x v l
def qqg(x:Int):Cnt→Bool
 | []=>false
 | p::l=>if x=p.1 then true else qqg x l
def ixLK(x:Int):Cnt→Nat
 | []=>0
 | p::l=>if x=p.1 then 0 else ixLK x l+1
theorem eqK(a b:Int):Ty.eqB (Ty.i .i64) a b=decide (a=b):=by
 show (a==b)=_
 by_cases h:a=b<;>simp[h]
theorem qAg(x:Int):∀(l:Cnt) (i:Nat),mpAt (Ty.i .i64) x l i=if qqg x l then some (i+ixLK x l,qgp x l) else none
 | [],_=>rfl
 | p::l,i=>by
  unfold qqg ixLK qgp
  show (match Ty.eqB (Ty.i .i64) x p.1 with
   | true=>some (i,p.2)
   | false=>mpAt (Ty.i .i64) x l (i+1))=_
  rw[show Ty.eqB (Ty.i .i64) x p.1=decide (x=p.1) from eqK x p.1]
  by_cases h:x=p.1
  ·rw[if_pos h,if_pos h,if_pos h,show decide (x=p.1)=true from decide_eq_true h]
   rfl
  ·rw[if_neg h,if_neg h,if_neg h,show decide (x=p.1)=false from decide_eq_false h]
   show mpAt (Ty.i .i64) x l (i+1)=_
   rw[qAg x l (i+1)]
   congr 2
   rw[show i+1+ixLK x l=i+(ixLK x l+1) by omega]
theorem qxW{x:Int}{v:Int}:∀{l:Cnt},qqg x l=false→qgp x l=0∧qoj x v l=l++[(x,v)]∧ixLK x l=l.length
 | [],_=>⟨rfl,rfl,rfl⟩
 | p::l,h=>by
  unfold qqg at h
  split at h
  ·cases h
  ·rename_i hx
   obtain ⟨h1,h2,h3⟩:=qxW (v:=v) h
   unfold qgp qoj ixLK
   rw[if_neg hx,if_neg hx,if_neg hx,h1,h2,h3]
   exact ⟨rfl,rfl,rfl⟩
theorem qAh{x:Int}{v:Int}:∀{l:Cnt},qqg x l=true→qjl (ixLK x l) v l=qoj x v l∧ixLK x l<l.length
 | [],h=>by cases h
 | p::l,h=>by
  unfold qqg at h
  unfold ixLK qoj
  split at h
  ·rename_i hx
   rw[if_pos hx,if_pos hx]
   exact ⟨rfl,by simp⟩
  ·rename_i hx
   rw[if_neg hx,if_neg hx]
   obtain ⟨h1,h2⟩:=qAh (v:=v) h
   refine ⟨?_,by simp;omega⟩
   rw[← h1]
   simp[qjl]
theorem qDj(x:Int)(l:Cnt):qe8 (Ty.i .i64) (0:Int) x l=qgp x l:=by
 unfold qe8
 rw[qAg x l 0]
 cases h:qqg x l with
 | true=>rfl
 | false=>exact (qxW (v:=0) h).1.symm
theorem quS(x z:Int)(v:Int):∀(l:Cnt),qgp z (qoj x v l)=if z=x then v else qgp z l
 | []=>by simp[qoj,qgp]
 | p::l=>by
  unfold qoj
  split
  ·rename_i hx
   unfold qgp
   by_cases h:z=x
   ·rw[if_pos h,if_pos (by rw[h,hx])]
   ·rw[if_neg h,if_neg (by rw[← hx];exact h),if_neg (by rw[← hx];exact h)]
  ·rename_i hx
   unfold qgp
   by_cases h:z=p.1
   ·rw[if_pos h,if_pos h,if_neg (fun e=>hx (by rw[← e,h]))]
   ·rw[if_neg h,if_neg h,quS x z v l]
theorem qDk(x:Int)(v:Int)(l:Cnt):qmi (Ty.i .i64) v x l=qoj x v l:=by
 unfold qmi
 rw[qAg x l 0]
 cases h:qqg x l with
 | true =>
  show qjl (0+ixLK x l) v l=_
  rw[Nat.zero_add]
  exact (qAh h).1
 | false=>exact (qxW (v:=v) h).2.1.symm
theorem qkZ(n:Nat)(a lo hi:Int):qbe n (a,(lo,(hi,())))=some (wi a lo hi,()):=by
 rw[qvx]
 show cond (iLe lo a) (some ((iLe a hi),())) (some (false,()))=_
 unfold wi iLe
 by_cases h:lo≤a
 ·rw[decide_eq_true h];rfl
 ·rw[decide_eq_false h];rfl
theorem qxi(n:Nat)(x:Int):qjB n (x,())=some (wi x 0 100,()):=by
 rw[quM]
 show Option.bind (qbe n (x,((0:Int),((100:Int),())))) _=_
 rw[qkZ];rfl
theorem qDl(n:Nat)(x:Int):qmU n (x,())=some (wi x 0 100000,()):=by
 rw[qxM]
 show Option.bind (qbe n (x,((0:Int),((100000:Int),())))) _=_
 rw[qkZ];rfl
theorem qDm(n:Nat)(l:List Int)(p:Int→Bool)(hE:∀x,x∈l→qe5 n (x,())=some (!p x,()))(hl:l.length≤1000)(hn:2000≤n):qfI n (l,(((),()),()))=some (l.all p,()):=by
 rw[qmr,qf8,qgG]
 have h1:=qeg (step:=qbL n) l (fun k=>(l,((l.length:Int),((k:Int),())))) (fun x=>!p x) (fun k=>.inr ((k:Int),())) (.inl ()) (fun rec k hk=>by
  rw[qcU]
  simp only[qy hk,cond_true,qr l hk,Option.bind_some,hE _ (List.getElem_mem hk),qj (show k<9223372036854775807 by omega)]) (fun rec=>by
  rw[qcU]
  simp only[qB,cond_false]) (n:=n) (by omega)
 rw[show l.all p = !l.any fun x=>!p x by simp[List.all_eq_not_any_not]]
 show Option.bind (Option.bind (Option.bind (qb n _ (l,((l.length:Int),(((0:Nat):Int),())))) _) _) _=_
 rcases h1 with ⟨h1,h2⟩ | ⟨k,hk,h1,_,h2⟩
 ·rw[h2,h1];rfl
 ·rw[h2,show (l.any fun x=>!p x)=true from List.any_eq_true.2 ⟨_,List.getElem_mem hk,h1⟩]
  show some (!iGe (k:Int) 0,())=_
  simp[iGe]
theorem qDn(n:Nat)(l:List Int)(p:Int→Bool)(hE:∀x,x∈l→qgj n (x,())=some (!p x,()))(hl:l.length≤1000)(hn:2000≤n):qg3 n (l,(((),()),()))=some (l.all p,()):=by
 rw[qnH,qgQ,qhm]
 have h1:=qeg (step:=qb4 n) l (fun k=>(l,((l.length:Int),((k:Int),())))) (fun x=>!p x) (fun k=>.inr ((k:Int),())) (.inl ()) (fun rec k hk=>by
  rw[qdt]
  simp only[qy hk,cond_true,qr l hk,Option.bind_some,hE _ (List.getElem_mem hk),qj (show k<9223372036854775807 by omega)]) (fun rec=>by
  rw[qdt]
  simp only[qB,cond_false]) (n:=n) (by omega)
 rw[show l.all p = !l.any fun x=>!p x by simp[List.all_eq_not_any_not]]
 show Option.bind (Option.bind (Option.bind (qb n _ (l,((l.length:Int),(((0:Nat):Int),())))) _) _) _=_
 rcases h1 with ⟨h1,h2⟩ | ⟨k,hk,h1,_,h2⟩
 ·rw[h2,h1];rfl
 ·rw[h2,show (l.any fun x=>!p x)=true from List.any_eq_true.2 ⟨_,List.getElem_mem hk,h1⟩]
  show some (!iGe (k:Int) 0,())=_
  simp[iGe]
theorem qDo(n:Nat)(l:List (List Int))(st:Uni×Unit)(p:(List Int)→Bool)(hE:∀x,x∈l→qe6 n (x,st)=some (!p x,st))(hl:l.length≤1000)(hn:2000≤n):qfJ n (l,st)=some (l.all p,st):=by
 rw[qms,qf9,qgH]
 have h1:=qeg (step:=qbM n) l (fun k=>(l,((l.length:Int),((k:Int),st)))) (fun x=>!p x) (fun k=>.inr ((k:Int),st)) (.inl st) (fun rec k hk=>by
  rw[qcV]
  simp only[qy hk,cond_true,qr l hk,Option.bind_some,hE _ (List.getElem_mem hk),qj (show k<9223372036854775807 by omega)]) (fun rec=>by
  rw[qcV]
  simp only[qB,cond_false]) (n:=n) (by omega)
 rw[show l.all p = !l.any fun x=>!p x by simp[List.all_eq_not_any_not]]
 show Option.bind (Option.bind (Option.bind (qb n _ (l,((l.length:Int),(((0:Nat):Int),st)))) _) _) _=_
 rcases h1 with ⟨h1,h2⟩ | ⟨k,hk,h1,_,h2⟩
 ·rw[h2,h1];rfl
 ·rw[h2,show (l.any fun x=>!p x)=true from List.any_eq_true.2 ⟨_,List.getElem_mem hk,h1⟩]
  show some (!iGe (k:Int) 0,st)=_
  simp[iGe]
theorem qAF(n:Nat)(l:List qxh)(st:Uni×Unit)(p:qxh→Bool)(hE:∀x,x∈l→qb5 n (x,st)=some (!p x,st))(hl:l.length≤1000)(hn:2000≤n):qcj n (l,st)=some (l.all p,st):=by
 rw[qhn,qdh,qdI]
 have h1:=qeg (step:=qO n) l (fun k=>(l,((l.length:Int),((k:Int),st)))) (fun x=>!p x) (fun k=>.inr ((k:Int),st)) (.inl st) (fun rec k hk=>by
  rw[qbl]
  simp only[qy hk,cond_true,qr l hk,Option.bind_some,hE _ (List.getElem_mem hk),qj (show k<9223372036854775807 by omega)]) (fun rec=>by
  rw[qbl]
  simp only[qB,cond_false]) (n:=n) (by omega)
 rw[show l.all p = !l.any fun x=>!p x by simp[List.all_eq_not_any_not]]
 show Option.bind (Option.bind (Option.bind (qb n _ (l,((l.length:Int),(((0:Nat):Int),st)))) _) _) _=_
 rcases h1 with ⟨h1,h2⟩ | ⟨k,hk,h1,_,h2⟩
 ·rw[h2,h1];rfl
 ·rw[h2,show (l.any fun x=>!p x)=true from List.any_eq_true.2 ⟨_,List.getElem_mem hk,h1⟩]
  show some (!iGe (k:Int) 0,st)=_
  simp[iGe]
theorem qB6(n:Nat)(l:List Work)(st:Uni×Unit)(p:Work→Bool)(hE:∀x,x∈l→qcf n (x,st)=some (!p x,st))(hl:l.length≤1000)(hn:2000≤n):qco n (l,st)=some (l.all p,st):=by
 rw[qhw,qdv,qdN]
 have h1:=qeg (step:=qR n) l (fun k=>(l,((l.length:Int),((k:Int),st)))) (fun x=>!p x) (fun k=>.inr ((k:Int),st)) (.inl st) (fun rec k hk=>by
  rw[qbo]
  simp only[qy hk,cond_true,qr l hk,Option.bind_some,hE _ (List.getElem_mem hk),qj (show k<9223372036854775807 by omega)]) (fun rec=>by
  rw[qbo]
  simp only[qB,cond_false]) (n:=n) (by omega)
 rw[show l.all p = !l.any fun x=>!p x by simp[List.all_eq_not_any_not]]
 show Option.bind (Option.bind (Option.bind (qb n _ (l,((l.length:Int),(((0:Nat):Int),st)))) _) _) _=_
 rcases h1 with ⟨h1,h2⟩ | ⟨k,hk,h1,_,h2⟩
 ·rw[h2,h1];rfl
 ·rw[h2,show (l.any fun x=>!p x)=true from List.any_eq_true.2 ⟨_,List.getElem_mem hk,h1⟩]
  show some (!iGe (k:Int) 0,st)=_
  simp[iGe]
theorem qB7(n:Nat)(l:List Int)(hl:l.length≤1000)(hn:2000≤n):qo6 n (l,())=some (shB l,()):=by
 rw[qvy]
 have h:=qkW (step:=qne n) l (fun k (b:Int)=>(l,(b,(l,((l.length:Int),((k:Int),())))))) (fun b x=>iW (iAdd b x)) 0 (fun b=>(l,(b,()))) (fun rec k b hk _=>by
  rw[qoE]
  simp only[qy hk,cond_true,qr l hk,Option.bind_some,qj (show k<9223372036854775807 by omega)]) (fun rec b=>by
  rw[qoE]
  simp only[qB,cond_false]) (n:=n) (by omega)
 show Option.bind (qb n _ (l,((0:Int),(l,((l.length:Int),(((0:Nat):Int),())))))) _=_
 rw[h]
 simp only[Option.bind_some]
 rw[qDm n l (fun x=>wi x 0 100) (fun x _=>by
  rw[qlP,qxi];rfl) hl hn]
 unfold shB
 cases ha:l.all fun x=>wi x 0 100 with
 | false=>rfl
 | true =>
  have hb:∀x,x∈l→0≤x∧x≤100:=fun x hx=>qbO.1 (List.all_eq_true.1 ha x hx)
  have fs:∀(m:List Int) (b:Int),(∀x,x∈m→0≤x∧x≤100)→0≤b→b+100*m.length≤1000000→m.foldl (fun b x=>iW (iAdd b x)) b=b+m.sum:=by
   intro m
   induction m with
   | nil=>intro b _ _ _;simp
   | cons x m ih =>
    intro b hm h0 hb
    have hx:=hm x List.mem_cons_self
    simp only[List.length_cons] at hb
    rw[List.foldl_cons,qbc (by unfold iAdd;omega) (by unfold iAdd;omega),ih _ (fun y hy=>hm y (List.mem_cons_of_mem _ hy)) (by unfold iAdd;omega) (by unfold iAdd;omega)]
    unfold iAdd
    rw[List.sum_cons];omega
  simp only[Option.bind_some,cond_true,Bool.true_and]
  rw[fs l 0 hb (Int.le_refl _) (by omega),Int.zero_add]
  by_cases e:l.sum=100
  ·rw[qbT e,decide_eq_true e]
  ·rw[qfh e,decide_eq_false e]
theorem qyI(n:Nat)(u:Uni)(x:Int)(hc:-1000≤u.2.2.1∧u.2.2.1≤1000):qiM n (x,(u,()))=some (qlM u x,(u,())):=by
 rw[qt0]
 show Option.bind (qbe n (x,((0:Int),(iW (iSub u.2.2.1 1),())))) _=_
 rw[qbc (by unfold iSub;omega) (by unfold iSub;omega),qkZ]
 rfl
theorem qDp(n:Nat)(u:Uni)(r:List Int)(hl:r.length≤1000)(hn:2000≤n):qnf n (r,(u,()))=some (rowB u r,(u,())):=by
 rw[qt1]
 unfold rowB
 show cond (iEq (r.length:Int) u.2.2.1) _ _=_
 by_cases e:(r.length:Int)=u.2.2.1
 ·rw[qbT e,decide_eq_true e]
  simp only[cond_true,qB7 n r hl hn,Option.bind_some,Bool.true_and]
 ·rw[qfh e,decide_eq_false e];rfl
theorem qDq(n:Nat)(u:Uni)(r:qxh)(hc:-1000≤u.2.2.1∧u.2.2.1≤1000):qgk n (r,(u,()))=some (qmg u r,(u,())):=by
 rw[qmW]
 simp only[qyI n u _ hc,Option.bind_some]
 unfold qmg
 cases qlM u r.1<;>rfl
theorem qDr(n:Nat)(u:Uni)(w:Work)(hc:-1000≤u.2.2.1∧u.2.2.1≤1000)(hh:u.1.1.length≤1000):qgl n (w,(u,()))=some (qoi u w,(u,())):=by
 rw[qmX]
 simp only[qyI n u _ hc,Option.bind_some,qkZ,qbc (n:=iSub (u.1.1.length:Int) 1) (by unfold iSub;omega) (by unfold iSub;omega)]
 unfold qoi
 show _=some (qlM u w.1&&(wi w.2.1 0 (iSub (u.1.1.length:Int) 1)&&wi w.2.2 0 20),(u,()))
 cases qlM u w.1<;>cases wi w.2.1 0 (iSub (u.1.1.length:Int) 1)<;>rfl
theorem qDs(n:Nat)(u:Uni)(g:qlL)(m:Cnt)(hc:-1000≤u.2.2.1∧u.2.2.1≤1000)(hm:0≤qgp g.1 m∧qgp g.1 m≤1000):qng n (g,(m,(u,())))=some (qmf u g&&decide (qgp g.1 m=0),(qoj g.1 (qgp g.1 m+1) m,(u,()))):=by
 rw[qt2]
 simp only[qkZ,Option.bind_some,qDj,qDk,quS,if_true,qbc (n:=iSub u.2.2.1 1) (by unfold iSub;omega) (by unfold iSub;omega),qbc (n:=iAdd (qgp g.1 m) 1) (by unfold iAdd;omega) (by unfold iAdd;omega),show (Int.negSucc 0) = -1 from rfl]
 have hg:qmf u g=(wi g.1 0 99&&(wi g.2.1 (-1) (iSub u.2.2.1 1)&&wi g.2.2 0 20)):=rfl
 rw[hg]
 unfold iAdd
 by_cases e:qgp g.1 m=0
 ·rw[qbT (show qgp g.1 m+1=1 by omega),decide_eq_true e]
  cases wi g.1 0 99<;>cases wi g.2.1 (-1) (iSub u.2.2.1 1)<;>cases wi g.2.2 0 20<;>rfl
 ·rw[qfh (show qgp g.1 m+1≠1 by omega),decide_eq_false e,Bool.and_false]
  cases wi g.1 0 99<;>rfl
theorem qDt(n:Nat)(u:Uni)(l:List qlL)(hc:-1000≤u.2.2.1∧u.2.2.1≤1000)(hl:l.length≤1000):∀(B A:List qlL) (m:Cnt) (n':Nat),l=A++B→(A.map (·.1)).Nodup→(∀x,qgp x m=if x∈A.map (·.1) then 1 else 0)→B.length<n' →
  ∃(m':Cnt) (j:Nat),qb n' (qbd n) (l,((l.length:Int),((A.length:Int),(m,(u,())))))=some (cond (B.all (qmf u)&&decide ((l.map (·.1)).Nodup)) (.inl (m',(u,()))) (.inr ((j:Int),(m',(u,()))))):=by
 intro B
 induction B with
 | nil =>
  intro A m n' hq hA hm hn'
  obtain ⟨n',rfl⟩:∃m,n'=m+1:=⟨n'-1,by omega⟩
  rw[List.append_nil] at hq
  refine ⟨m,0,?_⟩
  rw[qc,qca]
  simp only[hq,qB,cond_false,List.all_nil,Bool.true_and,decide_eq_true hA]
  rfl
 | cons x B ih =>
  intro A m n' hq hA hm hn'
  obtain ⟨n',rfl⟩:∃m,n'=m+1:=⟨n'-1,by omega⟩
  have hAl:A.length<l.length:=by rw[hq];simp
  have hx:l[A.length]?=some x:=by rw[hq];simp
  have hv:=hm x.1
  have hv2:0≤qgp x.1 m∧qgp x.1 m≤1000:=by rw[hv];split<;>omega
  rw[qc,qca]
  simp only[qy hAl,cond_true,qis,hx,Option.bind_some,qko,qDs n u x m hc hv2]
  rw[List.all_cons]
  cases hg:qmf u x with
  | false=>exact ⟨_,A.length,rfl⟩
  | true =>
   simp only[Bool.true_and]
   by_cases e:x.1∈A.map (·.1)
   ·have hnd:¬(l.map (·.1)).Nodup:=fun hnd=>by
     rw[hq,List.map_append,List.map_cons,List.nodup_append] at hnd
     exact hnd.2.2 x.1 e x.1 List.mem_cons_self rfl
    rw[decide_eq_false hnd,Bool.and_false,hv,if_pos e]
    exact ⟨_,A.length,rfl⟩
   ·rw[if_neg e] at hv
    rw[hv]
    simp only[decide_true,Bool.not_true,cond_false,qj (show A.length<9223372036854775807 by omega)]
    have:=ih (A++[x]) (qoj x.1 (0+1) m) n' (by rw[hq];simp) (by
     rw[List.map_append,List.nodup_append]
     refine ⟨hA,by simp,fun a ha b hb=>?_⟩
     simp only[List.map_cons,List.map_nil,List.mem_singleton] at hb
     subst hb
     exact fun h=>e (h ▸ ha)) (fun z=>by
     rw[quS,hm z]
     by_cases hz:z=x.1
     ·rw[if_pos hz,if_pos (by rw[hz];simp)];rfl
     ·rw[if_neg hz]
      by_cases hz2:z∈A.map (·.1)
      ·rw[if_pos hz2,if_pos (by rw[List.map_append];exact List.mem_append_left _ hz2)]
      ·rw[if_neg hz2,if_neg (by
        rw[List.map_append]
        intro h
        rcases List.mem_append.1 h with h | h
        ·exact hz2 h
        ·simp only[List.map_cons,List.map_nil,List.mem_singleton] at h;exact hz h)]) (by simp at hn';omega)
    rw[List.length_append,List.length_cons,List.length_nil,Nat.zero_add] at this
    exact this
theorem qAi(n:Nat)(u:Uni)(l:List qlL)(hc:-1000≤u.2.2.1∧u.2.2.1≤1000)(hl:l.length≤1000)(hn:2000≤n):∃m',qeh n (l,([],(u,())))=some (qhK u l,(m',(u,()))):=by
 rw[qkS,qeP,qe7]
 obtain ⟨m',j,h⟩:=qDt n u l hc hl l [] [] n rfl List.nodup_nil (fun x=>by simp[qgp]) (by omega)
 refine ⟨m',?_⟩
 show Option.bind (Option.bind (Option.bind (qb n _ (l,((l.length:Int),((([]:List qlL).length:Int),([],(u,())))))) _) _) _=_
 rw[h]
 unfold qhK
 cases l.all (qmf u)&&decide ((l.map (·.1)).Nodup) with
 | true=>rfl
 | false =>
  show some (!iGe (j:Int) 0,(m',(u,())))=_
  rw[show iGe (j:Int) 0=true from decide_eq_true (by omega)]
  rfl
theorem qDu(n:Nat)(u:Uni)(hs:Small11 u)(hn:5000≤n):qm1 n (u,())=some (chkU u,()):=by
 have a1:=hs.hu;have a2:=hs.ms;have a3:=hs.fe;have a4:=hs.sh;have a5:=hs.gu;have a6:=hs.ri;have a7:=hs.wo
 rw[qqP]
 show Option.bind (qiI n (u.1,(u.2.1,()))) _=_
 rw[qDi n u.1 u.2.1 hs.near (by omega),Option.bind_some]
 unfold chkU
 by_cases hk:chkN u.1 u.2.1=0
 ·rw[if_pos hk,qc2 hk]
  simp only[cond_false,qkZ,Option.bind_some]
  unfold uniB
  cases hw:wi u.2.2.1 1 6 with
  | false=>rfl
  | true =>
   have hc:=qbO.1 hw
   simp only[Bool.not_true,cond_false,Bool.true_and]
   by_cases e1:u.2.2.2.1.length=u.1.1.length
   ·rw[qc2 (show (u.2.2.2.1.length:Int)=u.1.1.length by omega),decide_eq_true e1]
    simp only[cond_false,Bool.true_and]
    rw[qDn n u.2.2.2.1 (fun x=>wi x 0 100000) (fun x _=>by rw[qmV,qDl];rfl) (by omega) (by omega),Option.bind_some]
    by_cases e2:u.2.2.2.2.1.length=u.1.1.length
    ·rw[qc2 (show (u.2.2.2.2.1.length:Int)=u.1.1.length by omega),decide_eq_true e2]
     simp only[cond_false,Bool.true_and]
     rw[qDo n u.2.2.2.2.1 (u,()) (rowB u) (fun r hr=>by rw[qlQ,qDp n u r (by have:=hs.rl r hr;omega) (by omega)];rfl) (by omega) (by omega)]
     simp only[Option.bind_some]
     obtain ⟨m',hg⟩:=qAi n u u.2.2.2.2.2.1 (by omega) (by omega) (by omega)
     rw[hg]
     simp only[Option.bind_some]
     rw[qAF n u.2.2.2.2.2.2.1 (u,()) (qmg u) (fun r _=>by rw[qg4,qDq n u r (by omega)];rfl) (by omega) (by omega)]
     simp only[Option.bind_some]
     rw[qB6 n u.2.2.2.2.2.2.2.1 (u,()) (qoi u) (fun w _=>by rw[qha,qDr n u w (by omega) (by omega)];rfl) (by omega) (by omega)]
     simp only[Option.bind_some,qxi,qDl]
     by_cases e3:u.2.2.2.2.2.1.length≤40
     ·by_cases e4:u.2.2.2.2.2.2.1.length≤12
      ·by_cases e5:u.2.2.2.2.2.2.2.1.length≤20
       ·rw[show iGt (u.2.2.2.2.2.1.length:Int) 40=false from decide_eq_false (by omega),show iGt (u.2.2.2.2.2.2.1.length:Int) 12=false from decide_eq_false (by omega),show iGt (u.2.2.2.2.2.2.2.1.length:Int) 20=false from decide_eq_false (by omega),decide_eq_true e3,decide_eq_true e4,decide_eq_true e5]
        cases u.2.2.2.1.all (fun x=>wi x 0 100000) with
        | false=>cases qhK u u.2.2.2.2.2.1<;>rfl
        | true =>
         cases u.2.2.2.2.1.all (rowB u) with
         | false=>cases qhK u u.2.2.2.2.2.1<;>rfl
         | true =>
          cases qhK u u.2.2.2.2.2.1 with
          | false=>rfl
          | true =>
           cases u.2.2.2.2.2.2.1.all (qmg u) with
           | false=>rfl
           | true =>
            cases u.2.2.2.2.2.2.2.1.all (qoi u) with
            | false=>rfl
            | true =>
             cases wi u.2.2.2.2.2.2.2.2.1 0 100<;>cases wi u.2.2.2.2.2.2.2.2.2.1 0 100<;>cases wi u.2.2.2.2.2.2.2.2.2.2.1 0 100000<;>cases wi u.2.2.2.2.2.2.2.2.2.2.2 0 100000<;>rfl
       ·rw[show iGt (u.2.2.2.2.2.2.2.1.length:Int) 20=true from decide_eq_true (by omega),decide_eq_false e5]
        cases u.2.2.2.1.all (fun x=>wi x 0 100000)<;>cases u.2.2.2.2.1.all (rowB u)<;>cases iGt (u.2.2.2.2.2.1.length:Int) 40<;>cases qhK u u.2.2.2.2.2.1<;>cases iGt (u.2.2.2.2.2.2.1.length:Int) 12<;>cases decide (u.2.2.2.2.2.1.length≤40)<;>cases decide (u.2.2.2.2.2.2.1.length≤12)<;>cases u.2.2.2.2.2.2.1.all (qmg u)<;>rfl
      ·rw[show iGt (u.2.2.2.2.2.2.1.length:Int) 12=true from decide_eq_true (by omega),decide_eq_false e4]
       cases u.2.2.2.1.all (fun x=>wi x 0 100000)<;>cases u.2.2.2.2.1.all (rowB u)<;>cases iGt (u.2.2.2.2.2.1.length:Int) 40<;>cases qhK u u.2.2.2.2.2.1<;>cases decide (u.2.2.2.2.2.1.length≤40)<;>rfl
     ·rw[show iGt (u.2.2.2.2.2.1.length:Int) 40=true from decide_eq_true (by omega),decide_eq_false e3]
      cases u.2.2.2.1.all (fun x=>wi x 0 100000)<;>cases u.2.2.2.2.1.all (rowB u)<;>cases qhK u u.2.2.2.2.2.1<;>rfl
    ·rw[qkb (show (u.2.2.2.2.1.length:Int)≠u.1.1.length by omega),decide_eq_false e2]
     cases u.2.2.2.1.all (fun x=>wi x 0 100000)<;>rfl
   ·rw[qkb (show (u.2.2.2.1.length:Int)≠u.1.1.length by omega),decide_eq_false e1];rfl
 ·rw[if_neg hk,qkb hk];rfl
end Go.Proofs.YtlmicgmhallkkaaGreatDoor
