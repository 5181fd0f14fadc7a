/- Texts Dp17, Dp18, Dc0, Dc1, Dc2, Dc3 in one. -/
import Derived.Test.YtlmicgmhallkkaaGreatDoorPc
import Derived.Test.YtlmicgmhallkkaaGreatDoorQa
/- Beds, plain: Check of whatever there is. -/
set_option linter.constructorNameAsVariable false
set_option linter.unusedSimpArgs false
set_option linter.unusedVariables false
set_option linter.unusedSectionVars false
namespace Go.Proofs.YtlmicgmhallkkaaGreatDoor
open Go Go.Proofs Go.RowKit
set_option maxHeartbeats 1000000
def qvy(x y:Msg):Bool:=decide (y.2.1=x.2.1)&&decide (y.1=x.1)
def adjK:List Msg→Bool
 | x::y::l=>qvy x y||adjK (y::l)
 | _=>false
theorem qyz:∀(q:List Msg),adjK q=true↔∃i,∃h:i+1<q.length,qvy q[i] q[i+1]=true
 | []=>by simp[adjK]
 | [x]=>by simp[adjK]
 | x::y::l=>by
  unfold adjK
  rw[Bool.or_eq_true,qyz (y::l)]
  constructor
  ·rintro (h | ⟨i,h1,h2⟩)
   ·exact ⟨0,by simp,h⟩
   ·exact ⟨i+1,by simpa using h1,by simpa using h2⟩
  ·rintro ⟨i,h1,h2⟩
   cases i with
   | zero=>exact .inl h2
   | succ i=>exact .inr ⟨i,by simpa using h1,by simpa using h2⟩
theorem qDY(n:Nat)(q:List Msg)(hl:q.length≤1000):∀(B A:List Msg) (p:Msg) (n':Nat),q=A++p::B→B.length<n' →
  qb n' (qmL n) (q,(q,((q.length:Int),(((A.length+1:Nat):Int),()))))=some (cond (adjK (p::B)) (.inr (true,())) (.inl ())):=by
 intro B
 induction B with
 | nil =>
  intro A p n' hq hn
  obtain ⟨n',rfl⟩:∃m,n'=m+1:=⟨n'-1,by omega⟩
  have e:A.length+1=q.length:=by rw[hq];simp
  rw[qe,qgu]
  simp only[e,qw,cond_false]
  rfl
 | cons y B ih =>
  intro A p n' hq hn
  simp only[List.length_cons] at hn
  obtain ⟨n',rfl⟩:∃m,n'=m+1:=⟨n'-1,by omega⟩
  have e:A.length+1<q.length:=by rw[hq];simp
  have e1:q[A.length+1]?=some y:=by rw[hq];exact app1 _ _ _ _
  have e0:q[A.length]?=some p:=by rw[hq];exact app0 _ _ _ _
  have ih':=ih (A++[p]) y n' (by rw[hq];simp) (by omega)
  rw[List.length_append,List.length_singleton] at ih'
  rw[qe,qgu]
  simp only[qu e,cond_true,qiv,e1,qrC,qn6 (show A.length<9223372036854775807 by omega),e0,Option.bind_some,qj (show A.length+1<9223372036854775807 by omega)]
  unfold adjK qvy
  by_cases h1:y.2.1=p.2.1
  ·rw[qcg h1]
   by_cases h2:y.1=p.1
   ·rw[qcg h2];simp[h1,h2]
   ·rw[qfs h2];simp only[cond_true,cond_false,h2,decide_false,Bool.and_false,Bool.false_or];exact ih'
  ·rw[qfs h1];simp only[cond_false,h1,decide_false,Bool.false_and,Bool.false_or];exact ih'
theorem qDZ(n:Nat)(q:List Msg)(hl:q.length≤1000)(hn:2000≤n):qoG n (q,())=some (adjK q,()):=by
 rw[qsg]
 obtain ⟨n,rfl⟩:∃m,n=m+1:=⟨n-1,by omega⟩
 cases q with
 | nil =>
  rw[qe,qgu]
  rfl
 | cons p B =>
  have h:=qDY (n+1) (p::B) hl B [] p n rfl (by simp at hl;omega)
  simp only[List.length_nil,Nat.zero_add] at h
  have e:(0:Int)<((p::B).length:Int):=by rw[List.length_cons];omega
  rw[qe,qgu]
  simp only[show iLt 0 ((p::B).length:Int)=true from decide_eq_true e,cond_true,qwR,Option.bind_some,show iGt 0 0=false from rfl,cond_false]
  rw[show iW (iAdd 0 1)=((1:Nat):Int) from rfl,h]
  cases adjK (p::B)<;>rfl
theorem qCJ{l:List Msg}(hk:∀m,m∈l→m.1=1∨m.1=2):adjK (qex l)=qiW l:=by
 have hs:(qex l).Pairwise (fun a b=>key1 a≤key1 b):=by
  have h1:=qvv (fun x y=>decide (cmpM x y<0)) key1 l fun x y hx hy=>by
   have:=qAP (hk x hx) (hk y hy)
   simpa using this
  exact h1.sublist (qvw _)
 have hadj:=qrD (qkl (fun x y=>decide (cmpM x y<0)) l)
 have hkd:∀m,m∈qex l→m.1=1∨m.1=2:=fun m hm=>hk m (qf0.1 hm)
 cases hc:qiW l with
 | false =>
  rw[← Bool.not_eq_true]
  intro h
  obtain ⟨i,h1,h2⟩:=(qyz _).1 h
  unfold qvy at h2
  simp only[Bool.and_eq_true,decide_eq_true_eq] at h2
  exact qyu _ hadj i h1 (qoN hc _ _ (qf0.1 (List.getElem_mem _)) (qf0.1 (List.getElem_mem _)) h2.1 h2.2)
 | true =>
  have hne:¬∀x y,x∈l→y∈l→x.2.1=y.2.1→x.1=y.1→x=y:=fun h=>by rw[qzj h] at hc;cases hc
  have:∃x y,x∈l∧y∈l∧x.2.1=y.2.1∧x.1=y.1∧x≠y:=by
   refine Classical.byContradiction fun h=>hne fun x y hx hy h1 h2=>Classical.byContradiction fun h3=>h ⟨x,y,hx,hy,h1,h2,h3⟩
  obtain ⟨x,y,hx,hy,h1,h2,h3⟩:=this
  have key:∀i j (hi:i<(qex l).length) (hj:j<(qex l).length),i<j→key1 (qex l)[i]=key1 (qex l)[j]→adjK (qex l)=true:=fun i j hi hj hij e=>by
   rw[List.pairwise_iff_getElem] at hs
   have e1:=hs i (i+1) hi (by omega) (by omega)
   have e2:key1 (qex l)[i+1]≤key1 (qex l)[j]:=by
    rcases Nat.lt_or_ge (i+1) j with h | h
    ·exact hs (i+1) j (by omega) hj h
    ·have:j=i+1:=by omega
     subst this;exact Int.le_refl _
   refine (qyz _).2 ⟨i,by omega,?_⟩
   have k1:=hkd (qex l)[i] (List.getElem_mem _)
   have k2:=hkd (qex l)[i+1] (List.getElem_mem _)
   unfold key1 at e e1 e2
   unfold qvy
   simp only[Bool.and_eq_true,decide_eq_true_eq]
   omega
  obtain ⟨i,hi,ei⟩:=List.mem_iff_getElem.1 (qf0.2 hx)
  obtain ⟨j,hj,ej⟩:=List.mem_iff_getElem.1 (qf0.2 hy)
  have ek:key1 (qex l)[i]=key1 (qex l)[j]:=by rw[ei,ej];unfold key1;omega
  rcases Nat.lt_trichotomy i j with h | h | h
  ·exact key i j hi hj h ek
  ·subst h;exact absurd (ei.symm.trans ej) h3
  ·exact key j i hj hi h ek.symm
structure Near (c:Chn) (l:List Msg):Prop where
 st:∀m,m∈l→m.2.2.2.2.length≤20
 hu:c.1.length≤20
 ln:l.length≤9∨(40<l.length∧l.length≤60)
theorem qD0{c:Chn}{l:List Msg}(h:farB c l=false):Near c l:=by
 obtain ⟨h1,h2⟩:=qCE h
 refine ⟨h1,h2,?_⟩
 unfold farB at h
 simp only[Bool.or_eq_false_iff,Bool.and_eq_false_iff,decide_eq_false_iff_not] at h
 omega
theorem qD1(n:Nat)(c:Chn)(l:List Msg)(V:Near c l)(hn:2000≤n):qiM n (c,(l,()))=some (chkN c l,()):=by
 have hu:=V.hu
 have hs:∀z,z∈l→z.2.2.2.2.length≤1000:=fun z hz=>by have:=V.st z hz;omega
 rw[qsh,qGi n c (by omega) hn]
 unfold chkN
 cases hc:qew c with
 | false=>rfl
 | true =>
  obtain ⟨h1,h2,h3,h4⟩:=qsn hc
  simp only[Option.bind_some,Bool.not_true,cond_false,cond_true]
  rw[qmw]
  by_cases hl:l.length≤40
  ·have hl9:l.length≤9:=by rcases V.ln with h | h<;>omega
   obtain ⟨u,hu⟩:=qto n c l (by omega) (by omega) (by omega) (by omega) hs hn
   have c1:iGt (l.length:Int) 40=false:=decide_eq_false (by omega)
   simp only[c1,cond_false,hu,Option.bind_some,hl,decide_true,Bool.and_true]
   rw[show (l.any fun m=>!mesB c m) = !l.all (mesB c) by simp[List.all_eq_not_any_not]]
   cases hm:l.all (mesB c) with
   | false=>rfl
   | true =>
    have hk:∀m,m∈l→m.1=1∨m.1=2:=fun m h=>by rw[List.all_eq_true] at hm;exact (qyy (hm m h)).1
    simp only[Bool.not_true,cond_false,qsE n l (by omega) hs hn,Option.bind_some,qDZ n (qex l) (by have:=qsm l;omega) hn,qCJ hk,cond_true]
    cases qiW l<;>rfl
  ·have c1:iGt (l.length:Int) 40=true:=decide_eq_true (by omega)
   simp only[c1,cond_true,hl,decide_false,Bool.and_false,cond_false]
   rfl
theorem qwW{nh nn:Int}:∀{ss:List Stay} {last:Int},qiV nh nn last ss=true→-1≤last→∀s,s∈ss→(0≤s.1∧s.1≤nh-1)∧0≤s.2.1∧s.2.2<nn∧s.2.1≤s.2.2
 | [],_,_,_,s,hs=>by cases hs
 | z::ss,last,h,hl,s,hs=>by
  unfold qiV at h
  simp only[Bool.and_eq_true,qca,decide_eq_true_eq] at h
  rcases List.mem_cons.1 hs with rfl | hs
  ·omega
  ·exact qwW h.2 (by omega) s hs
structure RefOk (c:Chn) (m:Msg):Prop where
 ok:MsgOk c m
 st:qiV c.1.length c.2 (-1) m.2.2.2.2=true
 ln:m.2.2.2.2.length≤20
abbrev qdP:=Int×(Int×Int)
abbrev qhM:=Int×Int
abbrev Work:=Int×(Int×Int)
abbrev Uni:=Chn×(List Msg×(Int×(List Int×(List (List Int)×(List qdP×(List qhM×(List Work×(Int×(Int×(Int×Int))))))))))
theorem qin(n:Nat)(a lo hi:Int):qF n (a,(lo,(hi,())))=some (wi a lo hi,()):=by
 rw[qrw]
 show cond (iGe a lo) (some ((iLe a hi),())) (some (false,()))=_
 unfold wi iGe iLe
 by_cases h:a≥lo
 ·rw[decide_eq_true h];rfl
 ·rw[decide_eq_false h];rfl
def shB(l:List Int):Bool:=l.all (fun x=>wi x 0 100)&&decide (l.sum=100)
theorem qHL{l:List Int}(h:∀x,x∈l→0≤x∧x≤100):0≤l.sum∧l.sum≤100*l.length:=by
 induction l with
 | nil=>simp
 | cons x l ih =>
  have h1:=h x List.mem_cons_self
  have h2:=ih fun y hy=>h y (List.mem_cons_of_mem _ hy)
  simp only[List.sum_cons,List.length_cons]
  omega
theorem qAS(n:Nat)(l:List Int)(hl:l.length≤1000)(hn:2000≤n):qiS n (l,())=some (shB l&&wi (l.length:Int) 1 6,()):=by
 rw[qqc]
 have key:∀(B A:List Int) (n':Nat),l=A++B→(∀x,x∈A→0≤x∧x≤100)→B.length<n'→qb n' (qhW n) (l,(A.sum,((A.length:Int),())))=some (cond (B.all fun x=>wi x 0 100) (.inl (l,(l.sum,()))) (.inr (false,()))):=by
  intro B
  induction B with
  | nil =>
   intro A n' hq hA hn'
   obtain ⟨n',rfl⟩:∃m,n'=m+1:=⟨n'-1,by omega⟩
   rw[List.append_nil] at hq
   rw[qe,qka]
   simp only[hq,qw,cond_false]
   rfl
  | cons x B ih =>
   intro A n' hq hA hn'
   obtain ⟨n',rfl⟩:∃m,n'=m+1:=⟨n'-1,by omega⟩
   have hAl:A.length<l.length:=by rw[hq];simp
   have hx:l[A.length]?=some x:=by rw[hq];simp
   have hsum:=qHL hA
   rw[qe,qka]
   simp only[qu hAl,cond_true,qiv,hx,Option.bind_some,qin]
   rw[List.all_cons]
   cases hw:wi x 0 100 with
   | false=>rfl
   | true =>
    have hx2:=qca.1 hw
    simp only[Bool.not_true,cond_false,Bool.true_and]
    rw[show iW (iAdd A.sum x)=(A++[x]).sum by rw[qbg (by unfold iAdd;omega) (by unfold iAdd;omega)];simp,qj (by omega),show A.length+1=(A++[x]).length by simp]
    exact ih (A++[x]) n' (by rw[hq];simp) (fun y hy=>by
     rcases List.mem_append.1 hy with hy | hy
     ·exact hA y hy
     ·rw[List.mem_singleton] at hy;rw[hy];exact hx2) (by simp at hn';omega)
 have h:=key l [] n rfl (fun x hx=>by cases hx) (by omega)
 show Option.bind (qb n _ (l,((([]:List Int).sum),((([]:List Int).length:Int),())))) _=_
 rw[h]
 unfold shB
 cases l.all fun x=>wi x 0 100 with
 | false=>rfl
 | true =>
  simp only[cond_true,Option.bind_some,Sum.elim_inl,Bool.true_and,qin,Int.ofNat_eq_natCast]
  by_cases e:l.sum=100
  ·rw[qcg e,decide_eq_true e];rfl
  ·rw[qfs e,decide_eq_false e];rfl
def ql4(u:Uni)(x:Int):Bool:=wi x 0 (u.2.2.1-1)
theorem qzl(n:Nat)(u:Uni)(x:Int)(hc:-1000≤u.2.2.1∧u.2.2.1≤1000):qfZ n (u,(x,()))=some (ql4 u x,()):=by
 rw[qrx]
 show Option.bind (qF n (x,((0:Int),(iW (iSub u.2.2.1 1),())))) _=_
 rw[qbg (by unfold iSub;omega) (by unfold iSub;omega),qin]
 rfl
def qmB(u:Uni)(g:qdP):Bool:=wi g.1 0 99&&(wi g.2.1 (-1) (u.2.2.1-1)&&wi g.2.2 0 20)
def qgv(u:Uni)(l:List qdP):Bool:=l.all (qmB u)&&decide ((l.map (·.1)).Nodup)
theorem qzD(n:Nat)(u:Uni)(i:Nat)(g:qdP)(hi:i<u.2.2.2.2.2.1.length)(hg:u.2.2.2.2.2.1[i]=g)(hl:u.2.2.2.2.2.1.length≤1000)(hn:2000≤n) :
  qb n (qfH n) ((i:Int),((0:Int),(u,(g,()))))=some (cond ((u.2.2.2.2.2.1.take i).any fun x=>decide (x.1=g.1)) (.inr (false,())) (.inl ((i:Int),(u,())))):=by
 have hti:(u.2.2.2.2.2.1.take i).length=i:=by simp;omega
 exact qkP (step:=qfH n) (u.2.2.2.2.2.1.take i) (fun k=>((i:Int),((k:Int),(u,(g,()))))) (fun x=>decide (x.1=g.1)) (.inr (false,())) (.inl ((i:Int),(u,()))) (fun rec k hk=>by
  have hk':k<i:=by omega
  rw[qkb]
  simp only[qu hk',cond_true,qA _ (show k<u.2.2.2.2.2.1.length by omega),Option.bind_some,qj (show k<9223372036854775807 by omega),List.getElem_take]
  by_cases e:(u.2.2.2.2.2.1[k]).1=g.1
  ·rw[qcg e,decide_eq_true e]
  ·rw[qfs e,decide_eq_false e]) (fun rec=>by
  rw[hti,qkb]
  simp only[qw,cond_false]) (n:=n) (by omega)
theorem qAT(n:Nat)(u:Uni)(hc:-1000≤u.2.2.1∧u.2.2.1≤1000)(hl:u.2.2.2.2.2.1.length≤1000)(hn:2000≤n):qiT n (u,())=some (qgv u u.2.2.2.2.2.1&&decide (u.2.2.2.2.2.1.length≤40),()):=by
 rw[qqd]
 obtain ⟨l,hL⟩:∃l,l=u.2.2.2.2.2.1:=⟨_,rfl⟩
 have key:∀(B A:List qdP) (n':Nat),l=A++B→(A.map (·.1)).Nodup→B.length<n'→qb n' (qhX n) ((A.length:Int),(u,()))=some (cond (B.all (qmB u)&&decide ((l.map (·.1)).Nodup)) (.inl (u,())) (.inr (false,()))):=by
  intro B
  induction B with
  | nil =>
   intro A n' hq hA hn'
   obtain ⟨n',rfl⟩:∃m,n'=m+1:=⟨n'-1,by omega⟩
   rw[List.append_nil] at hq
   rw[qe,qkc]
   simp only[← hL,hq,qw,cond_false,List.all_nil,Bool.true_and,decide_eq_true hA]
   rfl
  | cons x B ih =>
   intro A n' hq hA hn'
   obtain ⟨n',rfl⟩:∃m,n'=m+1:=⟨n'-1,by omega⟩
   have hAl:A.length<l.length:=by rw[hq];simp
   have hx:l[A.length]?=some x:=by rw[hq];simp
   have hxe:l[A.length]=x:=by rw[List.getElem?_eq_getElem hAl] at hx;injection hx
   have htk:l.take A.length=A:=by rw[hq];simp
   have hll:l.length≤1000:=by rw[hL];exact hl
   rw[qe,qkc]
   simp only[← hL,qu hAl,cond_true,qiv,hx,Option.bind_some,qin,qbg (n:=iSub u.2.2.1 1) (by unfold iSub;omega) (by unfold iSub;omega),show (Int.negSucc 0) = -1 from rfl]
   rw[List.all_cons]
   have h1:=qzD n u A.length x (by rw[← hL];exact hAl) (by subst hL;exact hxe) hl hn
   rw[← hL,htk] at h1
   have hg:qmB u x=(wi x.1 0 99&&(wi x.2.1 (-1) (iSub u.2.2.1 1)&&wi x.2.2 0 20)):=rfl
   cases h2:wi x.1 0 99 with
   | false=>rw[hg,h2];rfl
   | true =>
    cases h3:wi x.2.1 (-1) (iSub u.2.2.1 1) with
    | false=>rw[hg,h2,h3];rfl
    | true =>
     cases h4:wi x.2.2 0 20 with
     | false=>rw[hg,h2,h3,h4];rfl
     | true =>
      rw[hg,h2,h3,h4]
      simp only[Bool.not_true,cond_false,Bool.true_and,h1]
      cases ha:A.any fun y=>decide (y.1=x.1) with
      | true =>
       obtain ⟨y,hy,hyx⟩:=List.any_eq_true.1 ha
       have hnd:¬(l.map (·.1)).Nodup:=fun hnd=>by
        rw[hq,List.map_append,List.map_cons,List.nodup_append] at hnd
        exact hnd.2.2 y.1 (List.mem_map_of_mem hy) x.1 List.mem_cons_self (of_decide_eq_true hyx)
       rw[decide_eq_false hnd,Bool.and_false]
       rfl
      | false =>
       simp only[cond_false,Option.bind_some,Sum.elim_inl,qj (show A.length<9223372036854775807 by omega)]
       have:=ih (A++[x]) n' (by rw[hq];simp) (by
        rw[List.map_append,List.nodup_append]
        refine ⟨hA,by simp,fun a ha' b hb=>?_⟩
        obtain ⟨y,hy,rfl⟩:=List.mem_map.1 ha'
        simp only[List.map_cons,List.map_nil,List.mem_singleton] at hb
        rw[hb]
        rw[List.any_eq_false] at ha
        have:=ha y hy
        simpa using this) (by simp at hn';omega)
       rw[List.length_append,List.length_cons,List.length_nil,Nat.zero_add] at this
       exact this
 have h:=key l [] n rfl List.nodup_nil (by rw[hL];omega)
 rw[show (((0:Int),(u,())):Int×(Uni×Unit))=((([]:List qdP).length:Int),(u,())) from rfl,h]
 unfold qgv
 rw[← hL]
 cases l.all (qmB u)&&decide ((l.map (·.1)).Nodup) with
 | false=>rfl
 | true =>
  simp only[cond_true,Option.bind_some,Sum.elim_inl,Bool.true_and,← hL]
  by_cases e:l.length≤40
  ·rw[show iLe (l.length:Int) 40=true from decide_eq_true (by omega),decide_eq_true e]
  ·rw[show iLe (l.length:Int) 40=false from decide_eq_false (by omega),decide_eq_false e]
def qmC(u:Uni)(r:qhM):Bool:=ql4 u r.1&&ql4 u r.2
def qoP(u:Uni)(w:Work):Bool:=ql4 u w.1&&(wi w.2.1 0 ((u.1.1.length:Int)-1)&&wi w.2.2 0 20)
def rowB(u:Uni)(r:List Int):Bool:=decide ((r.length:Int)=u.2.2.1)&&shB r
def uniB(u:Uni):Bool:=wi u.2.2.1 1 6&&(decide (u.2.2.2.1.length=u.1.1.length)&&(decide (u.2.2.2.2.1.length=u.1.1.length)&&(qgv u u.2.2.2.2.2.1&&(decide (u.2.2.2.2.2.1.length≤40)&&(decide (u.2.2.2.2.2.2.1.length≤12)&&(decide (u.2.2.2.2.2.2.2.1.length≤20)&&(u.2.2.2.1.all (fun x=>wi x 0 100000)&&(u.2.2.2.2.1.all (rowB u)&&(u.2.2.2.2.2.2.1.all (qmC u)&&(u.2.2.2.2.2.2.2.1.all (qoP u)&&(wi u.2.2.2.2.2.2.2.2.1 0 100&&(wi u.2.2.2.2.2.2.2.2.2.1 0 100&&(wi u.2.2.2.2.2.2.2.2.2.2.1 0 100000&&wi u.2.2.2.2.2.2.2.2.2.2.2 0 100000)))))))))))))
def chkU(u:Uni):Int:=if chkN u.1 u.2.1=0 then cond (uniB u) 0 110 else chkN u.1 u.2.1
theorem qB0{α β:Type}(p:α→Bool)(q:β→Bool):∀(a:List α) (b:List β),a.length=b.length→(List.zip a b).all (fun x=>p x.1&&q x.2)=(a.all p&&b.all q)
 | [],[],_=>rfl
 | [],_::_,h=>by simp at h
 | _::_,[],h=>by simp at h
 | x::a,y::b,h=>by
  rw[List.zip_cons_cons,List.all_cons,List.all_cons,List.all_cons,qB0 p q a b (by simpa using h)]
  cases p x<;>cases q y<;>cases a.all p<;>cases b.all q<;>rfl
theorem qCK(n:Nat)(u:Uni)(hc:1≤u.2.2.1∧u.2.2.1≤6)(he:u.2.2.2.1.length=u.2.2.2.2.1.length)(hl:u.2.2.2.1.length≤1000)(hr:∀r,r∈u.2.2.2.2.1→r.length≤1000)(hn:2000≤n) :
  qb n (qfC n) ((0:Int),(u,()))=some (cond (u.2.2.2.1.all (fun x=>wi x 0 100000)&&u.2.2.2.2.1.all (rowB u)) (.inl (u,())) (.inr (110,()))):=by
 have hz:(List.zip u.2.2.2.1 u.2.2.2.2.1).length=u.2.2.2.1.length:=by rw[List.length_zip];omega
 have h:=qn4 (step:=qfC n) (List.zip u.2.2.2.1 u.2.2.2.2.1) (fun k=>((k:Int),(u,()))) (fun x=>wi x.1 0 100000&&rowB u x.2) (.inl (u,())) (.inr (110,())) (fun rec k hk=>by
  have h1:k<u.2.2.2.1.length:=by omega
  have h2:k<u.2.2.2.2.1.length:=by omega
  have hrr:=hr _ (List.getElem_mem h2)
  rw[ql1,List.getElem_zip]
  simp only[qu h1,cond_true,qA _ h1,qA _ h2,Option.bind_some,qin,qAS n _ hrr hn,qj (show k<9223372036854775807 by omega)]
  cases wi (u.2.2.2.1[k]) 0 100000 with
  | false=>rfl
  | true =>
   simp only[Bool.not_true,cond_false,Bool.true_and]
   unfold rowB
   by_cases e:((u.2.2.2.2.1[k]).length:Int)=u.2.2.1
   ·rw[qd1 e,decide_eq_true e,show wi ((u.2.2.2.2.1[k]).length:Int) 1 6=true by rw[e];exact qca.2 hc]
    simp only[cond_false,Bool.and_true,Bool.true_and]
    cases shB (u.2.2.2.2.1[k])<;>rfl
   ·rw[qgS e,decide_eq_false e];rfl) (fun rec=>by
  rw[hz,ql1]
  simp only[qw,cond_false]) (n:=n) (by omega)
 have h':qb n (qfC n) ((0:Int),(u,()))=_:=h
 rw[h',qB0 (fun x=>wi x 0 100000) (rowB u) _ _ he]
theorem qCL(n:Nat)(u:Uni)(hc:1≤u.2.2.1∧u.2.2.1≤6)(hl:u.2.2.2.2.2.2.1.length≤1000)(hn:2000≤n) :
  qb n (qhi n) ((0:Int),(u,()))=some (cond (u.2.2.2.2.2.2.1.all (qmC u)) (.inl (u,())) (.inr (110,()))):=by
 exact qn4 (step:=qhi n) u.2.2.2.2.2.2.1 (fun k=>((k:Int),(u,()))) (qmC u) (.inl (u,())) (.inr (110,())) (fun rec k hk=>by
  rw[ql2]
  simp only[qu hk,cond_true,qA _ hk,Option.bind_some,qzl n u _ (by omega),qj (show k<9223372036854775807 by omega)]
  unfold qmC
  cases ql4 u (u.2.2.2.2.2.2.1[k]).1<;>cases ql4 u (u.2.2.2.2.2.2.1[k]).2<;>rfl) (fun rec=>by
  rw[ql2]
  simp only[qw,cond_false]) (n:=n) (by omega)
theorem qCM(n:Nat)(u:Uni)(hc:1≤u.2.2.1∧u.2.2.1≤6)(he:u.2.2.2.1.length=u.1.1.length)(hl:u.2.2.2.2.2.2.2.1.length≤1000)(hf:u.2.2.2.1.length≤1000)(hn:2000≤n) :
  qb n (qhj n) ((0:Int),(u,()))=some (cond (u.2.2.2.2.2.2.2.1.all (qoP u)) (.inl (u,())) (.inr (110,()))):=by
 exact qn4 (step:=qhj n) u.2.2.2.2.2.2.2.1 (fun k=>((k:Int),(u,()))) (qoP u) (.inl (u,())) (.inr (110,())) (fun rec k hk=>by
  rw[ql3]
  simp only[qu hk,cond_true,qA _ hk,Option.bind_some,qzl n u _ (by omega),qin,qj (show k<9223372036854775807 by omega),qbg (n:=iSub (u.2.2.2.1.length:Int) 1) (by unfold iSub;omega) (by unfold iSub;omega)]
  unfold qoP
  rw[← he]
  show _=cond (_&&(wi _ 0 (iSub (u.2.2.2.1.length:Int) 1)&&_)) _ _
  cases ql4 u (u.2.2.2.2.2.2.2.1[k]).1<;>cases wi (u.2.2.2.2.2.2.2.1[k]).2.1 0 (iSub (u.2.2.2.1.length:Int) 1)<;>cases wi (u.2.2.2.2.2.2.2.1[k]).2.2 0 20<;>rfl) (fun rec=>by
  rw[ql3]
  simp only[qw,cond_false]) (n:=n) (by omega)
structure Small11 (u:Uni):Prop where
 hu:u.1.1.length≤20
 ln:u.2.1.length≤9∨(40<u.2.1.length∧u.2.1.length≤60)
 st:∀m,m∈u.2.1→m.2.2.2.2.length≤20
 fe:u.2.2.2.1.length≤20
 sh:u.2.2.2.2.1.length≤20
 rl:∀r,r∈u.2.2.2.2.1→r.length≤20
 gu:u.2.2.2.2.2.1.length≤42
 ri:u.2.2.2.2.2.2.1.length≤14
 wo:u.2.2.2.2.2.2.2.1.length≤22
theorem Small11.ms{u:Uni}(h:Small11 u):u.2.1.length≤60:=by rcases h.ln with h | h<;>omega
theorem Small11.near{u:Uni}(h:Small11 u):Near u.1 u.2.1:=⟨h.st,h.hu,h.ln⟩
theorem qzE(n:Nat)(u:Uni)(hs:Small11 u)(hn:5000≤n):qlc n (u,())=some (chkU u,()):=by
 have a1:=hs.hu;have a2:=hs.ms;have a3:=hs.fe;have a4:=hs.sh;have a5:=hs.gu;have a6:=hs.ri;have a7:=hs.wo
 rw[qrR]
 have h0:=qFs n u.1 u.2.1 (by omega) (by omega) (fun m hm=>by have:=hs.st m hm;omega) (by omega)
 show Option.bind (qie n (u.1,(u.2.1,()))) _=_
 rw[h0,Option.bind_some]
 unfold chkU
 by_cases hk:chkN u.1 u.2.1=0
 ·rw[if_pos hk,qd1 hk]
  simp only[cond_false,qin,Option.bind_some]
  unfold uniB
  cases hw:wi u.2.2.1 1 6 with
  | false=>rfl
  | true =>
   have hc:=qca.1 hw
   simp only[Bool.not_true,cond_false,Bool.true_and]
   by_cases e1:u.2.2.2.1.length=u.1.1.length
   ·rw[qd1 (show (u.2.2.2.1.length:Int)=u.1.1.length by omega),decide_eq_true e1]
    simp only[cond_false,Bool.true_and]
    by_cases e2:u.2.2.2.2.1.length=u.1.1.length
    ·rw[qd1 (show (u.2.2.2.2.1.length:Int)=u.1.1.length by omega),decide_eq_true e2]
     simp only[cond_false,Bool.true_and]
     rw[qAT n u (by omega) (by omega) (by omega),Option.bind_some]
     cases hg:(qgv u u.2.2.2.2.2.1&&decide (u.2.2.2.2.2.1.length≤40)) with
     | false =>
      rw[show ∀x y z:Bool,(x&&(y&&z))=((x&&y)&&z) from fun x y z=>(Bool.and_assoc x y z).symm,hg];rfl
     | true =>
      rw[show ∀x y z:Bool,(x&&(y&&z))=((x&&y)&&z) from fun x y z=>(Bool.and_assoc x y z).symm,hg]
      simp only[Bool.not_true,cond_false,Bool.true_and]
      by_cases e3:u.2.2.2.2.2.2.1.length≤12
      ·rw[show iGt (u.2.2.2.2.2.2.1.length:Int) 12=false from decide_eq_false (by omega),decide_eq_true e3]
       simp only[cond_false,Bool.true_and]
       by_cases e4:u.2.2.2.2.2.2.2.1.length≤20
       ·rw[show iGt (u.2.2.2.2.2.2.2.1.length:Int) 20=false from decide_eq_false (by omega),decide_eq_true e4]
        simp only[cond_false,Bool.true_and]
        rw[qCK n u hc (by omega) (by omega) (fun r hr=>by have:=hs.rl r hr;omega) (by omega),Option.bind_some]
        cases h5:(u.2.2.2.1.all (fun x=>wi x 0 100000)&&u.2.2.2.2.1.all (rowB u)) with
        | false =>
         rw[← Bool.and_assoc,h5];rfl
        | true =>
         rw[← Bool.and_assoc,h5]
         simp only[cond_true,Sum.elim_inl,Bool.true_and,qCL n u hc (by omega) (by omega),Option.bind_some]
         cases u.2.2.2.2.2.2.1.all (qmC u) with
         | false=>rfl
         | true =>
          simp only[cond_true,Sum.elim_inl,Bool.true_and,qCM n u hc e1 (by omega) (by omega) (by omega),Option.bind_some]
          cases u.2.2.2.2.2.2.2.1.all (qoP u) with
          | false=>rfl
          | true =>
           simp only[cond_true,Sum.elim_inl,Bool.true_and,qin,Option.bind_some]
           cases wi u.2.2.2.2.2.2.2.2.1 0 100<;>cases wi u.2.2.2.2.2.2.2.2.2.1 0 100<;>cases wi u.2.2.2.2.2.2.2.2.2.2.1 0 100000<;>cases wi u.2.2.2.2.2.2.2.2.2.2.2 0 100000<;>rfl
       ·rw[show iGt (u.2.2.2.2.2.2.2.1.length:Int) 20=true from decide_eq_true (by omega),decide_eq_false e4];rfl
      ·rw[show iGt (u.2.2.2.2.2.2.1.length:Int) 12=true from decide_eq_true (by omega),decide_eq_false e3];rfl
    ·rw[qgS (show (u.2.2.2.2.1.length:Int)≠u.1.1.length by omega),decide_eq_false e2];rfl
   ·rw[qgS (show (u.2.2.2.1.length:Int)≠u.1.1.length by omega),decide_eq_false e1];rfl
 ·rw[if_neg hk,qgS hk];rfl
abbrev Cnt:=List (Int×Int)
def qgr(x:Int):Cnt→Int
 | []=>0
 | p::l=>if x=p.1 then p.2 else qgr x l
def qoQ(x:Int)(v:Int):Cnt→Cnt
 | []=>[(x,v)]
 | p::l=>if x=p.1 then (p.1,v)::l else p::qoQ x v l
def qqX(x:Int):Cnt→Bool
 | []=>false
 | p::l=>if x=p.1 then true else qqX x l
def ixLK(x:Int):Cnt→Nat
 | []=>0
 | p::l=>if x=p.1 then 0 else ixLK x l+1
theorem eqK(a b:Int):Ty.eqB (Ty.i .i64) a b=decide (a=b):=by
 show (a==b)=_
 by_cases h:a=b<;>simp[h]
theorem qAU(x:Int):∀(l:Cnt) (i:Nat),mpAt (Ty.i .i64) x l i=if qqX x l then some (i+ixLK x l,qgr x l) else none
 | [],_=>rfl
 | p::l,i=>by
  unfold qqX ixLK qgr
  show (match Ty.eqB (Ty.i .i64) x p.1 with
   | true=>some (i,p.2)
   | false=>mpAt (Ty.i .i64) x l (i+1))=_
  rw[show Ty.eqB (Ty.i .i64) x p.1=decide (x=p.1) from eqK x p.1]
  by_cases h:x=p.1
  ·rw[if_pos h,if_pos h,if_pos h,show decide (x=p.1)=true from decide_eq_true h]
   rfl
  ·rw[if_neg h,if_neg h,if_neg h,show decide (x=p.1)=false from decide_eq_false h]
   show mpAt (Ty.i .i64) x l (i+1)=_
   rw[qAU x l (i+1)]
   congr 2
   rw[show i+1+ixLK x l=i+(ixLK x l+1) by omega]
theorem qyA{x:Int}{v:Int}:∀{l:Cnt},qqX x l=false→qgr x l=0∧qoQ x v l=l++[(x,v)]∧ixLK x l=l.length
 | [],_=>⟨rfl,rfl,rfl⟩
 | p::l,h=>by
  unfold qqX at h
  split at h
  ·cases h
  ·rename_i hx
   obtain ⟨h1,h2,h3⟩:=qyA (v:=v) h
   unfold qgr qoQ ixLK
   rw[if_neg hx,if_neg hx,if_neg hx,h1,h2,h3]
   exact ⟨rfl,rfl,rfl⟩
theorem qAV{x:Int}{v:Int}:∀{l:Cnt},qqX x l=true→qjw (ixLK x l) v l=qoQ x v l∧ixLK x l<l.length
 | [],h=>by cases h
 | p::l,h=>by
  unfold qqX at h
  unfold ixLK qoQ
  split at h
  ·rename_i hx
   rw[if_pos hx,if_pos hx]
   exact ⟨rfl,by simp⟩
  ·rename_i hx
   rw[if_neg hx,if_neg hx]
   obtain ⟨h1,h2⟩:=qAV (v:=v) h
   refine ⟨?_,by simp;omega⟩
   rw[← h1]
   simp[qjw]
theorem qD2(x:Int)(l:Cnt):qfk (Ty.i .i64) (0:Int) x l=qgr x l:=by
 unfold qfk
 rw[qAU x l 0]
 cases h:qqX x l with
 | true=>rfl
 | false=>exact (qyA (v:=0) h).1.symm
theorem qvz(x z:Int)(v:Int):∀(l:Cnt),qgr z (qoQ x v l)=if z=x then v else qgr z l
 | []=>by simp[qoQ,qgr]
 | p::l=>by
  unfold qoQ
  split
  ·rename_i hx
   unfold qgr
   by_cases h:z=x
   ·rw[if_pos h,if_pos (by rw[h,hx])]
   ·rw[if_neg h,if_neg (by rw[← hx];exact h),if_neg (by rw[← hx];exact h)]
  ·rename_i hx
   unfold qgr
   by_cases h:z=p.1
   ·rw[if_pos h,if_pos h,if_neg (fun e=>hx (by rw[← e,h]))]
   ·rw[if_neg h,if_neg h,qvz x z v l]
theorem qD3(x:Int)(v:Int)(l:Cnt):qmE (Ty.i .i64) v x l=qoQ x v l:=by
 unfold qmE
 rw[qAU x l 0]
 cases h:qqX x l with
 | true =>
  show qjw (0+ixLK x l) v l=_
  rw[Nat.zero_add]
  exact (qAV h).1
 | false=>exact (qyA (v:=v) h).2.1.symm
theorem qjR(n:Nat)(a lo hi:Int):qbb n (a,(lo,(hi,())))=some (wi a lo hi,()):=by
 rw[qv9]
 show cond (iLe lo a) (some ((iLe a hi),())) (some (false,()))=_
 unfold wi iLe
 by_cases h:lo≤a
 ·rw[decide_eq_true h];rfl
 ·rw[decide_eq_false h];rfl
theorem qxY(n:Nat)(x:Int):qjL n (x,())=some (wi x 0 100,()):=by
 rw[qvs]
 show Option.bind (qbb n (x,((0:Int),((100:Int),())))) _=_
 rw[qjR];rfl
theorem qD4(n:Nat)(x:Int):qnj n (x,())=some (wi x 0 100000,()):=by
 rw[qyq]
 show Option.bind (qbb n (x,((0:Int),((100000:Int),())))) _=_
 rw[qjR];rfl
theorem qD5(n:Nat)(l:List Int)(p:Int→Bool)(hE:∀x,x∈l→qfh n (x,())=some (!p x,()))(hl:l.length≤1000)(hn:2000≤n):qfO n (l,(((),()),()))=some (l.all p,()):=by
 rw[qmN,qgd,qgL]
 have h1:=qdl (step:=qbL n) l (fun k=>(l,((l.length:Int),((k:Int),())))) (fun x=>!p x) (fun k=>.inr ((k:Int),())) (.inl ()) (fun rec k hk=>by
  rw[qcX]
  simp only[qu hk,cond_true,qA l hk,Option.bind_some,hE _ (List.getElem_mem hk),qj (show k<9223372036854775807 by omega)]) (fun rec=>by
  rw[qcX]
  simp only[qw,cond_false]) (n:=n) (by omega)
 rw[show l.all p = !l.any fun x=>!p x by simp[List.all_eq_not_any_not]]
 show Option.bind (Option.bind (Option.bind (qb n _ (l,((l.length:Int),(((0:Nat):Int),())))) _) _) _=_
 rcases h1 with ⟨h1,h2⟩ | ⟨k,hk,h1,_,h2⟩
 ·rw[h2,h1];rfl
 ·rw[h2,show (l.any fun x=>!p x)=true from List.any_eq_true.2 ⟨_,List.getElem_mem hk,h1⟩]
  show some (!iGe (k:Int) 0,())=_
  simp[iGe]
theorem qD6(n:Nat)(l:List Int)(p:Int→Bool)(hE:∀x,x∈l→qgo n (x,())=some (!p x,()))(hl:l.length≤1000)(hn:2000≤n):qg8 n (l,(((),()),()))=some (l.all p,()):=by
 rw[qob,qgX,qht]
 have h1:=qdl (step:=qb3 n) l (fun k=>(l,((l.length:Int),((k:Int),())))) (fun x=>!p x) (fun k=>.inr ((k:Int),())) (.inl ()) (fun rec k hk=>by
  rw[qdy]
  simp only[qu hk,cond_true,qA l hk,Option.bind_some,hE _ (List.getElem_mem hk),qj (show k<9223372036854775807 by omega)]) (fun rec=>by
  rw[qdy]
  simp only[qw,cond_false]) (n:=n) (by omega)
 rw[show l.all p = !l.any fun x=>!p x by simp[List.all_eq_not_any_not]]
 show Option.bind (Option.bind (Option.bind (qb n _ (l,((l.length:Int),(((0:Nat):Int),())))) _) _) _=_
 rcases h1 with ⟨h1,h2⟩ | ⟨k,hk,h1,_,h2⟩
 ·rw[h2,h1];rfl
 ·rw[h2,show (l.any fun x=>!p x)=true from List.any_eq_true.2 ⟨_,List.getElem_mem hk,h1⟩]
  show some (!iGe (k:Int) 0,())=_
  simp[iGe]
theorem qD7(n:Nat)(l:List (List Int))(st:Uni×Unit)(p:(List Int)→Bool)(hE:∀x,x∈l→qfi n (x,st)=some (!p x,st))(hl:l.length≤1000)(hn:2000≤n):qfP n (l,st)=some (l.all p,st):=by
 rw[qmO,qge,qgM]
 have h1:=qdl (step:=qbM n) l (fun k=>(l,((l.length:Int),((k:Int),st)))) (fun x=>!p x) (fun k=>.inr ((k:Int),st)) (.inl st) (fun rec k hk=>by
  rw[qcY]
  simp only[qu hk,cond_true,qA l hk,Option.bind_some,hE _ (List.getElem_mem hk),qj (show k<9223372036854775807 by omega)]) (fun rec=>by
  rw[qcY]
  simp only[qw,cond_false]) (n:=n) (by omega)
 rw[show l.all p = !l.any fun x=>!p x by simp[List.all_eq_not_any_not]]
 show Option.bind (Option.bind (Option.bind (qb n _ (l,((l.length:Int),(((0:Nat):Int),st)))) _) _) _=_
 rcases h1 with ⟨h1,h2⟩ | ⟨k,hk,h1,_,h2⟩
 ·rw[h2,h1];rfl
 ·rw[h2,show (l.any fun x=>!p x)=true from List.any_eq_true.2 ⟨_,List.getElem_mem hk,h1⟩]
  show some (!iGe (k:Int) 0,st)=_
  simp[iGe]
theorem qBo(n:Nat)(l:List qhM)(st:Uni×Unit)(p:qhM→Bool)(hE:∀x,x∈l→qb4 n (x,st)=some (!p x,st))(hl:l.length≤1000)(hn:2000≤n):qcj n (l,st)=some (l.all p,st):=by
 rw[qhu,qdj,qdQ]
 have h1:=qdl (step:=qN n) l (fun k=>(l,((l.length:Int),((k:Int),st)))) (fun x=>!p x) (fun k=>.inr ((k:Int),st)) (.inl st) (fun rec k hk=>by
  rw[qbk]
  simp only[qu hk,cond_true,qA l hk,Option.bind_some,hE _ (List.getElem_mem hk),qj (show k<9223372036854775807 by omega)]) (fun rec=>by
  rw[qbk]
  simp only[qw,cond_false]) (n:=n) (by omega)
 rw[show l.all p = !l.any fun x=>!p x by simp[List.all_eq_not_any_not]]
 show Option.bind (Option.bind (Option.bind (qb n _ (l,((l.length:Int),(((0:Nat):Int),st)))) _) _) _=_
 rcases h1 with ⟨h1,h2⟩ | ⟨k,hk,h1,_,h2⟩
 ·rw[h2,h1];rfl
 ·rw[h2,show (l.any fun x=>!p x)=true from List.any_eq_true.2 ⟨_,List.getElem_mem hk,h1⟩]
  show some (!iGe (k:Int) 0,st)=_
  simp[iGe]
theorem qCN(n:Nat)(l:List Work)(st:Uni×Unit)(p:Work→Bool)(hE:∀x,x∈l→qce n (x,st)=some (!p x,st))(hl:l.length≤1000)(hn:2000≤n):qco n (l,st)=some (l.all p,st):=by
 rw[qhC,qdC,qd0]
 have h1:=qdl (step:=qP n) l (fun k=>(l,((l.length:Int),((k:Int),st)))) (fun x=>!p x) (fun k=>.inr ((k:Int),st)) (.inl st) (fun rec k hk=>by
  rw[qbn]
  simp only[qu hk,cond_true,qA l hk,Option.bind_some,hE _ (List.getElem_mem hk),qj (show k<9223372036854775807 by omega)]) (fun rec=>by
  rw[qbn]
  simp only[qw,cond_false]) (n:=n) (by omega)
 rw[show l.all p = !l.any fun x=>!p x by simp[List.all_eq_not_any_not]]
 show Option.bind (Option.bind (Option.bind (qb n _ (l,((l.length:Int),(((0:Nat):Int),st)))) _) _) _=_
 rcases h1 with ⟨h1,h2⟩ | ⟨k,hk,h1,_,h2⟩
 ·rw[h2,h1];rfl
 ·rw[h2,show (l.any fun x=>!p x)=true from List.any_eq_true.2 ⟨_,List.getElem_mem hk,h1⟩]
  show some (!iGe (k:Int) 0,st)=_
  simp[iGe]
theorem qCO(n:Nat)(l:List Int)(hl:l.length≤1000)(hn:2000≤n):qpD n (l,())=some (shB l,()):=by
 rw[qwa]
 have h:=qhk (step:=qnB n) l (fun k (b:Int)=>(l,(b,(l,((l.length:Int),((k:Int),())))))) (fun b x=>iW (iAdd b x)) 0 (fun b=>(l,(b,()))) (fun rec k b hk _=>by
  rw[qpc]
  simp only[qu hk,cond_true,qA l hk,Option.bind_some,qj (show k<9223372036854775807 by omega)]) (fun rec b=>by
  rw[qpc]
  simp only[qw,cond_false]) (n:=n) (by omega)
 show Option.bind (qb n _ (l,((0:Int),(l,((l.length:Int),(((0:Nat):Int),())))))) _=_
 rw[h]
 simp only[Option.bind_some]
 rw[qD5 n l (fun x=>wi x 0 100) (fun x _=>by
  rw[ql6,qxY];rfl) hl hn]
 unfold shB
 cases ha:l.all fun x=>wi x 0 100 with
 | false=>rfl
 | true =>
  have hb:∀x,x∈l→0≤x∧x≤100:=fun x hx=>qca.1 (List.all_eq_true.1 ha x hx)
  have fs:∀(m:List Int) (b:Int),(∀x,x∈m→0≤x∧x≤100)→0≤b→b+100*m.length≤1000000→m.foldl (fun b x=>iW (iAdd b x)) b=b+m.sum:=by
   intro m
   induction m with
   | nil=>intro b _ _ _;simp
   | cons x m ih =>
    intro b hm h0 hb
    have hx:=hm x List.mem_cons_self
    simp only[List.length_cons] at hb
    rw[List.foldl_cons,qbg (by unfold iAdd;omega) (by unfold iAdd;omega),ih _ (fun y hy=>hm y (List.mem_cons_of_mem _ hy)) (by unfold iAdd;omega) (by unfold iAdd;omega)]
    unfold iAdd
    rw[List.sum_cons];omega
  simp only[Option.bind_some,cond_true,Bool.true_and]
  rw[fs l 0 hb (Int.le_refl _) (by omega),Int.zero_add]
  by_cases e:l.sum=100
  ·rw[qcg e,decide_eq_true e]
  ·rw[qfs e,decide_eq_false e]
theorem qzm(n:Nat)(u:Uni)(x:Int)(hc:-1000≤u.2.2.1∧u.2.2.1≤1000):qiQ n (x,(u,()))=some (ql4 u x,(u,())):=by
 rw[quG]
 show Option.bind (qbb n (x,((0:Int),(iW (iSub u.2.2.1 1),())))) _=_
 rw[qbg (by unfold iSub;omega) (by unfold iSub;omega),qjR]
 rfl
theorem qD8(n:Nat)(u:Uni)(r:List Int)(hl:r.length≤1000)(hn:2000≤n):qnC n (r,(u,()))=some (rowB u r,(u,())):=by
 rw[quH]
 unfold rowB
 show cond (iEq (r.length:Int) u.2.2.1) _ _=_
 by_cases e:(r.length:Int)=u.2.2.1
 ·rw[qcg e,decide_eq_true e]
  simp only[cond_true,qCO n r hl hn,Option.bind_some,Bool.true_and]
 ·rw[qfs e,decide_eq_false e];rfl
theorem qD9(n:Nat)(u:Uni)(r:qhM)(hc:-1000≤u.2.2.1∧u.2.2.1≤1000):qgp n (r,(u,()))=some (qmC u r,(u,())):=by
 rw[qnl]
 simp only[qzm n u _ hc,Option.bind_some]
 unfold qmC
 cases ql4 u r.1<;>rfl
theorem qEa(n:Nat)(u:Uni)(w:Work)(hc:-1000≤u.2.2.1∧u.2.2.1≤1000)(hh:u.1.1.length≤1000):qgq n (w,(u,()))=some (qoP u w,(u,())):=by
 rw[qnm]
 simp only[qzm n u _ hc,Option.bind_some,qjR,qbg (n:=iSub (u.1.1.length:Int) 1) (by unfold iSub;omega) (by unfold iSub;omega)]
 unfold qoP
 show _=some (ql4 u w.1&&(wi w.2.1 0 (iSub (u.1.1.length:Int) 1)&&wi w.2.2 0 20),(u,()))
 cases ql4 u w.1<;>cases wi w.2.1 0 (iSub (u.1.1.length:Int) 1)<;>rfl
theorem qEb(n:Nat)(u:Uni)(g:qdP)(m:Cnt)(hc:-1000≤u.2.2.1∧u.2.2.1≤1000)(hm:0≤qgr g.1 m∧qgr g.1 m≤1000):qnD n (g,(m,(u,())))=some (qmB u g&&decide (qgr g.1 m=0),(qoQ g.1 (qgr g.1 m+1) m,(u,()))):=by
 rw[quI]
 simp only[qjR,Option.bind_some,qD2,qD3,qvz,if_true,qbg (n:=iSub u.2.2.1 1) (by unfold iSub;omega) (by unfold iSub;omega),qbg (n:=iAdd (qgr g.1 m) 1) (by unfold iAdd;omega) (by unfold iAdd;omega),show (Int.negSucc 0) = -1 from rfl]
 have hg:qmB u g=(wi g.1 0 99&&(wi g.2.1 (-1) (iSub u.2.2.1 1)&&wi g.2.2 0 20)):=rfl
 rw[hg]
 unfold iAdd
 by_cases e:qgr g.1 m=0
 ·rw[qcg (show qgr g.1 m+1=1 by omega),decide_eq_true e]
  cases wi g.1 0 99<;>cases wi g.2.1 (-1) (iSub u.2.2.1 1)<;>cases wi g.2.2 0 20<;>rfl
 ·rw[qfs (show qgr g.1 m+1≠1 by omega),decide_eq_false e,Bool.and_false]
  cases wi g.1 0 99<;>rfl
theorem qEc(n:Nat)(u:Uni)(l:List qdP)(hc:-1000≤u.2.2.1∧u.2.2.1≤1000)(hl:l.length≤1000):∀(B A:List qdP) (m:Cnt) (n':Nat),l=A++B→(A.map (·.1)).Nodup→(∀x,qgr x m=if x∈A.map (·.1) then 1 else 0)→B.length<n' →
  ∃(m':Cnt) (j:Nat),qb n' (qba n) (l,((l.length:Int),((A.length:Int),(m,(u,())))))=some (cond (B.all (qmB u)&&decide ((l.map (·.1)).Nodup)) (.inl (m',(u,()))) (.inr ((j:Int),(m',(u,()))))):=by
 intro B
 induction B with
 | nil =>
  intro A m n' hq hA hm hn'
  obtain ⟨n',rfl⟩:∃m,n'=m+1:=⟨n'-1,by omega⟩
  rw[List.append_nil] at hq
  refine ⟨m,0,?_⟩
  rw[qe,qb9]
  simp only[hq,qw,cond_false,List.all_nil,Bool.true_and,decide_eq_true hA]
  rfl
 | cons x B ih =>
  intro A m n' hq hA hm hn'
  obtain ⟨n',rfl⟩:∃m,n'=m+1:=⟨n'-1,by omega⟩
  have hAl:A.length<l.length:=by rw[hq];simp
  have hx:l[A.length]?=some x:=by rw[hq];simp
  have hv:=hm x.1
  have hv2:0≤qgr x.1 m∧qgr x.1 m≤1000:=by rw[hv];split<;>omega
  rw[qe,qb9]
  simp only[qu hAl,cond_true,qiv,hx,Option.bind_some,qkA,qEb n u x m hc hv2]
  rw[List.all_cons]
  cases hg:qmB u x with
  | false=>exact ⟨_,A.length,rfl⟩
  | true =>
   simp only[Bool.true_and]
   by_cases e:x.1∈A.map (·.1)
   ·have hnd:¬(l.map (·.1)).Nodup:=fun hnd=>by
     rw[hq,List.map_append,List.map_cons,List.nodup_append] at hnd
     exact hnd.2.2 x.1 e x.1 List.mem_cons_self rfl
    rw[decide_eq_false hnd,Bool.and_false,hv,if_pos e]
    exact ⟨_,A.length,rfl⟩
   ·rw[if_neg e] at hv
    rw[hv]
    simp only[decide_true,Bool.not_true,cond_false,qj (show A.length<9223372036854775807 by omega)]
    have:=ih (A++[x]) (qoQ x.1 (0+1) m) n' (by rw[hq];simp) (by
     rw[List.map_append,List.nodup_append]
     refine ⟨hA,by simp,fun a ha b hb=>?_⟩
     simp only[List.map_cons,List.map_nil,List.mem_singleton] at hb
     subst hb
     exact fun h=>e (h ▸ ha)) (fun z=>by
     rw[qvz,hm z]
     by_cases hz:z=x.1
     ·rw[if_pos hz,if_pos (by rw[hz];simp)];rfl
     ·rw[if_neg hz]
      by_cases hz2:z∈A.map (·.1)
      ·rw[if_pos hz2,if_pos (by rw[List.map_append];exact List.mem_append_left _ hz2)]
      ·rw[if_neg hz2,if_neg (by
        rw[List.map_append]
        intro h
        rcases List.mem_append.1 h with h | h
        ·exact hz2 h
        ·simp only[List.map_cons,List.map_nil,List.mem_singleton] at h;exact hz h)]) (by simp at hn';omega)
    rw[List.length_append,List.length_cons,List.length_nil,Nat.zero_add] at this
    exact this
theorem qAW(n:Nat)(u:Uni)(l:List qdP)(hc:-1000≤u.2.2.1∧u.2.2.1≤1000)(hl:l.length≤1000)(hn:2000≤n):∃m',qey n (l,([],(u,())))=some (qgv u l,(m',(u,()))):=by
 rw[qlb,qe2,qfj]
 obtain ⟨m',j,h⟩:=qEc n u l hc hl l [] [] n rfl List.nodup_nil (fun x=>by simp[qgr]) (by omega)
 refine ⟨m',?_⟩
 show Option.bind (Option.bind (Option.bind (qb n _ (l,((l.length:Int),((([]:List qdP).length:Int),([],(u,())))))) _) _) _=_
 rw[h]
 unfold qgv
 cases l.all (qmB u)&&decide ((l.map (·.1)).Nodup) with
 | true=>rfl
 | false =>
  show some (!iGe (j:Int) 0,(m',(u,())))=_
  rw[show iGe (j:Int) 0=true from decide_eq_true (by omega)]
  rfl
theorem qzn(n:Nat)(u:Uni)(hs:Small11 u)(hn:5000≤n):qnr n (u,())=some (chkU u,()):=by
 have a1:=hs.hu;have a2:=hs.ms;have a3:=hs.fe;have a4:=hs.sh;have a5:=hs.gu;have a6:=hs.ri;have a7:=hs.wo
 rw[qru]
 show Option.bind (qiM n (u.1,(u.2.1,()))) _=_
 rw[qD1 n u.1 u.2.1 hs.near (by omega),Option.bind_some]
 unfold chkU
 by_cases hk:chkN u.1 u.2.1=0
 ·rw[if_pos hk,qd1 hk]
  simp only[cond_false,qjR,Option.bind_some]
  unfold uniB
  cases hw:wi u.2.2.1 1 6 with
  | false=>rfl
  | true =>
   have hc:=qca.1 hw
   simp only[Bool.not_true,cond_false,Bool.true_and]
   by_cases e1:u.2.2.2.1.length=u.1.1.length
   ·rw[qd1 (show (u.2.2.2.1.length:Int)=u.1.1.length by omega),decide_eq_true e1]
    simp only[cond_false,Bool.true_and]
    rw[qD6 n u.2.2.2.1 (fun x=>wi x 0 100000) (fun x _=>by rw[qnk,qD4];rfl) (by omega) (by omega),Option.bind_some]
    by_cases e2:u.2.2.2.2.1.length=u.1.1.length
    ·rw[qd1 (show (u.2.2.2.2.1.length:Int)=u.1.1.length by omega),decide_eq_true e2]
     simp only[cond_false,Bool.true_and]
     rw[qD7 n u.2.2.2.2.1 (u,()) (rowB u) (fun r hr=>by rw[ql7,qD8 n u r (by have:=hs.rl r hr;omega) (by omega)];rfl) (by omega) (by omega)]
     simp only[Option.bind_some]
     obtain ⟨m',hg⟩:=qAW n u u.2.2.2.2.2.1 (by omega) (by omega) (by omega)
     rw[hg]
     simp only[Option.bind_some]
     rw[qBo n u.2.2.2.2.2.2.1 (u,()) (qmC u) (fun r _=>by rw[qg9,qD9 n u r (by omega)];rfl) (by omega) (by omega)]
     simp only[Option.bind_some]
     rw[qCN n u.2.2.2.2.2.2.2.1 (u,()) (qoP u) (fun w _=>by rw[qhg,qEa n u w (by omega) (by omega)];rfl) (by omega) (by omega)]
     simp only[Option.bind_some,qxY,qD4]
     by_cases e3:u.2.2.2.2.2.1.length≤40
     ·by_cases e4:u.2.2.2.2.2.2.1.length≤12
      ·by_cases e5:u.2.2.2.2.2.2.2.1.length≤20
       ·rw[show iGt (u.2.2.2.2.2.1.length:Int) 40=false from decide_eq_false (by omega),show iGt (u.2.2.2.2.2.2.1.length:Int) 12=false from decide_eq_false (by omega),show iGt (u.2.2.2.2.2.2.2.1.length:Int) 20=false from decide_eq_false (by omega),decide_eq_true e3,decide_eq_true e4,decide_eq_true e5]
        cases u.2.2.2.1.all (fun x=>wi x 0 100000) with
        | false=>cases qgv u u.2.2.2.2.2.1<;>rfl
        | true =>
         cases u.2.2.2.2.1.all (rowB u) with
         | false=>cases qgv u u.2.2.2.2.2.1<;>rfl
         | true =>
          cases qgv u u.2.2.2.2.2.1 with
          | false=>rfl
          | true =>
           cases u.2.2.2.2.2.2.1.all (qmC u) with
           | false=>rfl
           | true =>
            cases u.2.2.2.2.2.2.2.1.all (qoP u) with
            | false=>rfl
            | true =>
             cases wi u.2.2.2.2.2.2.2.2.1 0 100<;>cases wi u.2.2.2.2.2.2.2.2.2.1 0 100<;>cases wi u.2.2.2.2.2.2.2.2.2.2.1 0 100000<;>cases wi u.2.2.2.2.2.2.2.2.2.2.2 0 100000<;>rfl
       ·rw[show iGt (u.2.2.2.2.2.2.2.1.length:Int) 20=true from decide_eq_true (by omega),decide_eq_false e5]
        cases u.2.2.2.1.all (fun x=>wi x 0 100000)<;>cases u.2.2.2.2.1.all (rowB u)<;>cases iGt (u.2.2.2.2.2.1.length:Int) 40<;>cases qgv u u.2.2.2.2.2.1<;>cases iGt (u.2.2.2.2.2.2.1.length:Int) 12<;>cases decide (u.2.2.2.2.2.1.length≤40)<;>cases decide (u.2.2.2.2.2.2.1.length≤12)<;>cases u.2.2.2.2.2.2.1.all (qmC u)<;>rfl
      ·rw[show iGt (u.2.2.2.2.2.2.1.length:Int) 12=true from decide_eq_true (by omega),decide_eq_false e4]
       cases u.2.2.2.1.all (fun x=>wi x 0 100000)<;>cases u.2.2.2.2.1.all (rowB u)<;>cases iGt (u.2.2.2.2.2.1.length:Int) 40<;>cases qgv u u.2.2.2.2.2.1<;>cases decide (u.2.2.2.2.2.1.length≤40)<;>rfl
     ·rw[show iGt (u.2.2.2.2.2.1.length:Int) 40=true from decide_eq_true (by omega),decide_eq_false e3]
      cases u.2.2.2.1.all (fun x=>wi x 0 100000)<;>cases u.2.2.2.2.1.all (rowB u)<;>cases qgv u u.2.2.2.2.2.1<;>rfl
    ·rw[qgS (show (u.2.2.2.2.1.length:Int)≠u.1.1.length by omega),decide_eq_false e2]
     cases u.2.2.2.1.all (fun x=>wi x 0 100000)<;>rfl
   ·rw[qgS (show (u.2.2.2.1.length:Int)≠u.1.1.length by omega),decide_eq_false e1];rfl
 ·rw[if_neg hk,qgS hk];rfl
end Go.Proofs.YtlmicgmhallkkaaGreatDoor
