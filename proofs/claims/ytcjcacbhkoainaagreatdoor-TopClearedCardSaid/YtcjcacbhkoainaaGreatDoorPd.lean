/- Texts Dp17, Dp18, Dc0, Dc1, Dc2, Dc3 in one. -/
import Derived.Test.YtcjcacbhkoainaaGreatDoorPc
import Derived.Test.YtcjcacbhkoainaaGreatDoorQa
/- Beds, plain: Check of whatever there is. -/
set_option linter.constructorNameAsVariable false
set_option linter.unusedSimpArgs false
set_option linter.unusedVariables false
set_option linter.unusedSectionVars false
namespace Go.Proofs.YtcjcacbhkoainaaGreatDoor
open Go Go.Proofs Go.RowKit
set_option maxHeartbeats 1000000
def qwd(x y:Msg):Bool:=decide (y.2.1=x.2.1)&&decide (y.1=x.1)
def adjK:List Msg→Bool
 | x::y::l=>qwd x y||adjK (y::l)
 | _=>false
theorem qzw:∀(q:List Msg),adjK q=true↔∃i,∃h:i+1<q.length,qwd q[i] q[i+1]=true
 | []=>by simp[adjK]
 | [x]=>by simp[adjK]
 | x::y::l=>by
  unfold adjK
  rw[Bool.or_eq_true,qzw (y::l)]
  constructor
  ·rintro (h | ⟨i,h1,h2⟩)
   ·exact ⟨0,by simp,h⟩
   ·exact ⟨i+1,by simpa using h1,by simpa using h2⟩
  ·rintro ⟨i,h1,h2⟩
   cases i with
   | zero=>exact .inl h2
   | succ i=>exact .inr ⟨i,by simpa using h1,by simpa using h2⟩
theorem qFr(n:Nat)(q:List Msg)(hl:q.length≤1000):∀(B A:List Msg) (p:Msg) (n':Nat),q=A++p::B→B.length<n' →
  qb n' (qnk n) (q,(q,((q.length:Int),(((A.length+1:Nat):Int),()))))=some (cond (adjK (p::B)) (.inr (true,())) (.inl ())):=by
 intro B
 induction B with
 | nil =>
  intro A p n' hq hn
  obtain ⟨n',rfl⟩:∃m,n'=m+1:=⟨n'-1,by omega⟩
  have e:A.length+1=q.length:=by rw[hq];simp
  rw[qc,qg2]
  simp only[e,qB,cond_false]
  rfl
 | cons y B ih =>
  intro A p n' hq hn
  simp only[List.length_cons] at hn
  obtain ⟨n',rfl⟩:∃m,n'=m+1:=⟨n'-1,by omega⟩
  have e:A.length+1<q.length:=by rw[hq];simp
  have e1:q[A.length+1]?=some y:=by rw[hq];exact app1 _ _ _ _
  have e0:q[A.length]?=some p:=by rw[hq];exact app0 _ _ _ _
  have ih':=ih (A++[p]) y n' (by rw[hq];simp) (by omega)
  rw[List.length_append,List.length_singleton] at ih'
  rw[qc,qg2]
  simp only[qv e,cond_true,qi8,e1,qsc,qk8 (show A.length<9223372036854775807 by omega),e0,Option.bind_some,qi (show A.length+1<9223372036854775807 by omega)]
  unfold adjK qwd
  by_cases h1:y.2.1=p.2.1
  ·rw[qb4 h1]
   by_cases h2:y.1=p.1
   ·rw[qb4 h2];simp[h1,h2]
   ·rw[qfS h2];simp only[cond_true,cond_false,h2,decide_false,Bool.and_false,Bool.false_or];exact ih'
  ·rw[qfS h1];simp only[cond_false,h1,decide_false,Bool.false_and,Bool.false_or];exact ih'
theorem qFs(n:Nat)(q:List Msg)(hl:q.length≤1000)(hn:2000≤n):qo7 n (q,())=some (adjK q,()):=by
 rw[qsS]
 obtain ⟨n,rfl⟩:∃m,n=m+1:=⟨n-1,by omega⟩
 cases q with
 | nil =>
  rw[qc,qg2]
  rfl
 | cons p B =>
  have h:=qFr (n+1) (p::B) hl B [] p n rfl (by simp at hl;omega)
  simp only[List.length_nil,Nat.zero_add] at h
  have e:(0:Int)<((p::B).length:Int):=by rw[List.length_cons];omega
  rw[qc,qg2]
  simp only[show iLt 0 ((p::B).length:Int)=true from decide_eq_true e,cond_true,qxP,Option.bind_some,show iGt 0 0=false from rfl,cond_false]
  rw[show iW (iAdd 0 1)=((1:Nat):Int) from rfl,h]
  cases adjK (p::B)<;>rfl
theorem qD6{l:List Msg}(hk:∀m,m∈l→m.1=1∨m.1=2):adjK (qfT l)=qjA l:=by
 have hs:(qfT l).Pairwise (fun a b=>key1 a≤key1 b):=by
  have h1:=qBP (fun x y=>decide (cmpM x y<0)) key1 l fun x y hx hy=>by
   have:=qHt (hk x hx) (hk y hy)
   simpa using this
  exact h1.sublist (qBQ _)
 have hadj:=qwc (qkQ (fun x y=>decide (cmpM x y<0)) l)
 have hkd:∀m,m∈qfT l→m.1=1∨m.1=2:=fun m hm=>hk m (qkj.1 hm)
 cases hc:qjA l with
 | false =>
  rw[← Bool.not_eq_true]
  intro h
  obtain ⟨i,h1,h2⟩:=(qzw _).1 h
  unfold qwd at h2
  simp only[Bool.and_eq_true,decide_eq_true_eq] at h2
  exact qzr _ hadj i h1 (qpe hc _ _ (qkj.1 (List.getElem_mem _)) (qkj.1 (List.getElem_mem _)) h2.1 h2.2)
 | true =>
  have hne:¬∀x y,x∈l→y∈l→x.2.1=y.2.1→x.1=y.1→x=y:=fun h=>by rw[qAk h] at hc;cases hc
  have:∃x y,x∈l∧y∈l∧x.2.1=y.2.1∧x.1=y.1∧x≠y:=by
   refine Classical.byContradiction fun h=>hne fun x y hx hy h1 h2=>Classical.byContradiction fun h3=>h ⟨x,y,hx,hy,h1,h2,h3⟩
  obtain ⟨x,y,hx,hy,h1,h2,h3⟩:=this
  have key:∀i j (hi:i<(qfT l).length) (hj:j<(qfT l).length),i<j→key1 (qfT l)[i]=key1 (qfT l)[j]→adjK (qfT l)=true:=fun i j hi hj hij e=>by
   rw[List.pairwise_iff_getElem] at hs
   have e1:=hs i (i+1) hi (by omega) (by omega)
   have e2:key1 (qfT l)[i+1]≤key1 (qfT l)[j]:=by
    rcases Nat.lt_or_ge (i+1) j with h | h
    ·exact hs (i+1) j (by omega) hj h
    ·have:j=i+1:=by omega
     subst this;exact Int.le_refl _
   refine (qzw _).2 ⟨i,by omega,?_⟩
   have k1:=hkd (qfT l)[i] (List.getElem_mem _)
   have k2:=hkd (qfT l)[i+1] (List.getElem_mem _)
   unfold key1 at e e1 e2
   unfold qwd
   simp only[Bool.and_eq_true,decide_eq_true_eq]
   omega
  obtain ⟨i,hi,ei⟩:=List.mem_iff_getElem.1 (qkj.2 hx)
  obtain ⟨j,hj,ej⟩:=List.mem_iff_getElem.1 (qkj.2 hy)
  have ek:key1 (qfT l)[i]=key1 (qfT l)[j]:=by rw[ei,ej];unfold key1;omega
  rcases Nat.lt_trichotomy i j with h | h | h
  ·exact key i j hi hj h ek
  ·subst h;exact absurd (ei.symm.trans ej) h3
  ·exact key j i hj hi h ek.symm
structure Near (c:Chn) (l:List Msg):Prop where
 st:∀m,m∈l→m.2.2.2.2.length≤20
 hu:c.1.length≤20
 ln:l.length≤9∨(40<l.length∧l.length≤60)
theorem qFt{c:Chn}{l:List Msg}(h:farB c l=false):Near c l:=by
 obtain ⟨h1,h2⟩:=qD1 h
 refine ⟨h1,h2,?_⟩
 unfold farB at h
 simp only[Bool.or_eq_false_iff,Bool.and_eq_false_iff,decide_eq_false_iff_not] at h
 omega
theorem qFu(n:Nat)(c:Chn)(l:List Msg)(V:Near c l)(hn:2000≤n):qk2 n (c,(l,()))=some (chkN c l,()):=by
 have hu:=V.hu
 have hs:∀z,z∈l→z.2.2.2.2.length≤1000:=fun z hz=>by have:=V.st z hz;omega
 rw[qsT,qH5 n c (by omega) hn]
 unfold chkN
 cases hc:qdr c with
 | false=>rfl
 | true =>
  obtain ⟨h1,h2,h3,h4⟩:=qsZ hc
  simp only[Option.bind_some,Bool.not_true,cond_false,cond_true]
  rw[qm4]
  by_cases hl:l.length≤40
  ·have hl9:l.length≤9:=by rcases V.ln with h | h<;>omega
   obtain ⟨u,hu⟩:=qt4 n c l (by omega) (by omega) (by omega) (by omega) hs hn
   have c1:iGt (l.length:Int) 40=false:=decide_eq_false (by omega)
   simp only[c1,cond_false,hu,Option.bind_some,hl,decide_true,Bool.and_true]
   rw[show (l.any fun m=>!mesB c m) = !l.all (mesB c) by simp[List.all_eq_not_any_not]]
   cases hm:l.all (mesB c) with
   | false=>rfl
   | true =>
    have hk:∀m,m∈l→m.1=1∨m.1=2:=fun m h=>by rw[List.all_eq_true] at hm;exact (qzv (hm m h)).1
    simp only[Bool.not_true,cond_false,qtj n l (by omega) hs hn,Option.bind_some,qFs n (qfT l) (by have:=qsY l;omega) hn,qD6 hk,cond_true]
    cases qjA l<;>rfl
  ·have c1:iGt (l.length:Int) 40=true:=decide_eq_true (by omega)
   simp only[c1,cond_true,hl,decide_false,Bool.and_false,cond_false]
   rfl
theorem qsd{nh nn:Int}:∀{ss:List Stay} {last:Int},qhX nh nn last ss=true→-1≤last→∀s,s∈ss→(0≤s.1∧s.1≤nh-1)∧0≤s.2.1∧s.2.2<nn∧s.2.1≤s.2.2
 | [],_,_,_,s,hs=>by cases hs
 | z::ss,last,h,hl,s,hs=>by
  unfold qhX at h
  simp only[Bool.and_eq_true,q7,decide_eq_true_eq] at h
  rcases List.mem_cons.1 hs with rfl | hs
  ·omega
  ·exact qsd h.2 (by omega) s hs
structure RefOk (c:Chn) (m:Msg):Prop where
 ok:MsgOk c m
 st:qhX c.1.length c.2 (-1) m.2.2.2.2=true
 ln:m.2.2.2.2.length≤20
abbrev qmC:=Int×(Int×Int)
abbrev qyO:=Int×Int
abbrev Work:=Int×(Int×Int)
abbrev Uni:=Chn×(List Msg×(Int×(List Int×(List (List Int)×(List qmC×(List qyO×(List Work×(Int×(Int×(Int×Int))))))))))
theorem qgI(n:Nat)(a lo hi:Int):qm n (a,(lo,(hi,())))=some (wi a lo hi,()):=by
 rw[qr9]
 show cond (iGe a lo) (some ((iLe a hi),())) (some (false,()))=_
 unfold wi iGe iLe
 by_cases h:a≥lo
 ·rw[decide_eq_true h];rfl
 ·rw[decide_eq_false h];rfl
def shB(l:List Int):Bool:=l.all (fun x=>wi x 0 100)&&decide (l.sum=100)
theorem qJV{l:List Int}(h:∀x,x∈l→0≤x∧x≤100):0≤l.sum∧l.sum≤100*l.length:=by
 induction l with
 | nil=>simp
 | cons x l ih =>
  have h1:=h x List.mem_cons_self
  have h2:=ih fun y hy=>h y (List.mem_cons_of_mem _ hy)
  simp only[List.sum_cons,List.length_cons]
  omega
theorem qBT(n:Nat)(l:List Int)(hl:l.length≤1000)(hn:2000≤n):qjv n (l,())=some (shB l&&wi (l.length:Int) 1 6,()):=by
 rw[qqF]
 have key:∀(B A:List Int) (n':Nat),l=A++B→(∀x,x∈A→0≤x∧x≤100)→B.length<n'→qb n' (qit n) (l,(A.sum,((A.length:Int),())))=some (cond (B.all fun x=>wi x 0 100) (.inl (l,(l.sum,()))) (.inr (false,()))):=by
  intro B
  induction B with
  | nil =>
   intro A n' hq hA hn'
   obtain ⟨n',rfl⟩:∃m,n'=m+1:=⟨n'-1,by omega⟩
   rw[List.append_nil] at hq
   rw[qc,qkC]
   simp only[hq,qB,cond_false]
   rfl
  | cons x B ih =>
   intro A n' hq hA hn'
   obtain ⟨n',rfl⟩:∃m,n'=m+1:=⟨n'-1,by omega⟩
   have hAl:A.length<l.length:=by rw[hq];simp
   have hx:l[A.length]?=some x:=by rw[hq];simp
   have hsum:=qJV hA
   rw[qc,qkC]
   simp only[qv hAl,cond_true,qi8,hx,Option.bind_some,qgI]
   rw[List.all_cons]
   cases hw:wi x 0 100 with
   | false=>rfl
   | true =>
    have hx2:=q7.1 hw
    simp only[Bool.not_true,cond_false,Bool.true_and]
    rw[show iW (iAdd A.sum x)=(A++[x]).sum by rw[qM (by unfold iAdd;omega) (by unfold iAdd;omega)];simp,qi (by omega),show A.length+1=(A++[x]).length by simp]
    exact ih (A++[x]) n' (by rw[hq];simp) (fun y hy=>by
     rcases List.mem_append.1 hy with hy | hy
     ·exact hA y hy
     ·rw[List.mem_singleton] at hy;rw[hy];exact hx2) (by simp at hn';omega)
 have h:=key l [] n rfl (fun x hx=>by cases hx) (by omega)
 show Option.bind (qb n _ (l,((([]:List Int).sum),((([]:List Int).length:Int),())))) _=_
 rw[h]
 unfold shB
 cases l.all fun x=>wi x 0 100 with
 | false=>rfl
 | true =>
  simp only[cond_true,Option.bind_some,Sum.elim_inl,Bool.true_and,qgI,Int.ofNat_eq_natCast]
  by_cases e:l.sum=100
  ·rw[qb4 e,decide_eq_true e];rfl
  ·rw[qfS e,decide_eq_false e];rfl
def qmD(u:Uni)(x:Int):Bool:=wi x 0 (u.2.2.1-1)
theorem qAl(n:Nat)(u:Uni)(x:Int)(hc:-1000≤u.2.2.1∧u.2.2.1≤1000):qgu n (u,(x,()))=some (qmD u x,()):=by
 rw[qsa]
 show Option.bind (qm n (x,((0:Int),(iW (iSub u.2.2.1 1),())))) _=_
 rw[qM (by unfold iSub;omega) (by unfold iSub;omega),qgI]
 rfl
def qna(u:Uni)(g:qmC):Bool:=wi g.1 0 99&&(wi g.2.1 (-1) (u.2.2.1-1)&&wi g.2.2 0 20)
def qik(u:Uni)(l:List qmC):Bool:=l.all (qna u)&&decide ((l.map (·.1)).Nodup)
theorem qAC(n:Nat)(u:Uni)(i:Nat)(g:qmC)(hi:i<u.2.2.2.2.2.1.length)(hg:u.2.2.2.2.2.1[i]=g)(hl:u.2.2.2.2.2.1.length≤1000)(hn:2000≤n) :
  qb n (qf9 n) ((i:Int),((0:Int),(u,(g,()))))=some (cond ((u.2.2.2.2.2.1.take i).any fun x=>decide (x.1=g.1)) (.inr (false,())) (.inl ((i:Int),(u,())))):=by
 have hti:(u.2.2.2.2.2.1.take i).length=i:=by simp;omega
 exact qm8 (step:=qf9 n) (u.2.2.2.2.2.1.take i) (fun k=>((i:Int),((k:Int),(u,(g,()))))) (fun x=>decide (x.1=g.1)) (.inr (false,())) (.inl ((i:Int),(u,()))) (fun rec k hk=>by
  have hk':k<i:=by omega
  rw[qkD]
  simp only[qv hk',cond_true,qw _ (show k<u.2.2.2.2.2.1.length by omega),Option.bind_some,qi (show k<9223372036854775807 by omega),List.getElem_take]
  by_cases e:(u.2.2.2.2.2.1[k]).1=g.1
  ·rw[qb4 e,decide_eq_true e]
  ·rw[qfS e,decide_eq_false e]) (fun rec=>by
  rw[hti,qkD]
  simp only[qB,cond_false]) (n:=n) (by omega)
theorem qBU(n:Nat)(u:Uni)(hc:-1000≤u.2.2.1∧u.2.2.1≤1000)(hl:u.2.2.2.2.2.1.length≤1000)(hn:2000≤n):qjw n (u,())=some (qik u u.2.2.2.2.2.1&&decide (u.2.2.2.2.2.1.length≤40),()):=by
 rw[qqG]
 obtain ⟨l,hL⟩:∃l,l=u.2.2.2.2.2.1:=⟨_,rfl⟩
 have key:∀(B A:List qmC) (n':Nat),l=A++B→(A.map (·.1)).Nodup→B.length<n'→qb n' (qiu n) ((A.length:Int),(u,()))=some (cond (B.all (qna u)&&decide ((l.map (·.1)).Nodup)) (.inl (u,())) (.inr (false,()))):=by
  intro B
  induction B with
  | nil =>
   intro A n' hq hA hn'
   obtain ⟨n',rfl⟩:∃m,n'=m+1:=⟨n'-1,by omega⟩
   rw[List.append_nil] at hq
   rw[qc,qkE]
   simp only[← hL,hq,qB,cond_false,List.all_nil,Bool.true_and,decide_eq_true hA]
   rfl
  | cons x B ih =>
   intro A n' hq hA hn'
   obtain ⟨n',rfl⟩:∃m,n'=m+1:=⟨n'-1,by omega⟩
   have hAl:A.length<l.length:=by rw[hq];simp
   have hx:l[A.length]?=some x:=by rw[hq];simp
   have hxe:l[A.length]=x:=by rw[List.getElem?_eq_getElem hAl] at hx;injection hx
   have htk:l.take A.length=A:=by rw[hq];simp
   have hll:l.length≤1000:=by rw[hL];exact hl
   rw[qc,qkE]
   simp only[← hL,qv hAl,cond_true,qi8,hx,Option.bind_some,qgI,qM (n:=iSub u.2.2.1 1) (by unfold iSub;omega) (by unfold iSub;omega),show (Int.negSucc 0) = -1 from rfl]
   rw[List.all_cons]
   have h1:=qAC n u A.length x (by rw[← hL];exact hAl) (by subst hL;exact hxe) hl hn
   rw[← hL,htk] at h1
   have hg:qna u x=(wi x.1 0 99&&(wi x.2.1 (-1) (iSub u.2.2.1 1)&&wi x.2.2 0 20)):=rfl
   cases h2:wi x.1 0 99 with
   | false=>rw[hg,h2];rfl
   | true =>
    cases h3:wi x.2.1 (-1) (iSub u.2.2.1 1) with
    | false=>rw[hg,h2,h3];rfl
    | true =>
     cases h4:wi x.2.2 0 20 with
     | false=>rw[hg,h2,h3,h4];rfl
     | true =>
      rw[hg,h2,h3,h4]
      simp only[Bool.not_true,cond_false,Bool.true_and,h1]
      cases ha:A.any fun y=>decide (y.1=x.1) with
      | true =>
       obtain ⟨y,hy,hyx⟩:=List.any_eq_true.1 ha
       have hnd:¬(l.map (·.1)).Nodup:=fun hnd=>by
        rw[hq,List.map_append,List.map_cons,List.nodup_append] at hnd
        exact hnd.2.2 y.1 (List.mem_map_of_mem hy) x.1 List.mem_cons_self (of_decide_eq_true hyx)
       rw[decide_eq_false hnd,Bool.and_false]
       rfl
      | false =>
       simp only[cond_false,Option.bind_some,Sum.elim_inl,qi (show A.length<9223372036854775807 by omega)]
       have:=ih (A++[x]) n' (by rw[hq];simp) (by
        rw[List.map_append,List.nodup_append]
        refine ⟨hA,by simp,fun a ha' b hb=>?_⟩
        obtain ⟨y,hy,rfl⟩:=List.mem_map.1 ha'
        simp only[List.map_cons,List.map_nil,List.mem_singleton] at hb
        rw[hb]
        rw[List.any_eq_false] at ha
        have:=ha y hy
        simpa using this) (by simp at hn';omega)
       rw[List.length_append,List.length_cons,List.length_nil,Nat.zero_add] at this
       exact this
 have h:=key l [] n rfl List.nodup_nil (by rw[hL];omega)
 rw[show (((0:Int),(u,())):Int×(Uni×Unit))=((([]:List qmC).length:Int),(u,())) from rfl,h]
 unfold qik
 rw[← hL]
 cases l.all (qna u)&&decide ((l.map (·.1)).Nodup) with
 | false=>rfl
 | true =>
  simp only[cond_true,Option.bind_some,Sum.elim_inl,Bool.true_and,← hL]
  by_cases e:l.length≤40
  ·rw[show iLe (l.length:Int) 40=true from decide_eq_true (by omega),decide_eq_true e]
  ·rw[show iLe (l.length:Int) 40=false from decide_eq_false (by omega),decide_eq_false e]
def qnb(u:Uni)(r:qyO):Bool:=qmD u r.1&&qmD u r.2
def qpf(u:Uni)(w:Work):Bool:=qmD u w.1&&(wi w.2.1 0 ((u.1.1.length:Int)-1)&&wi w.2.2 0 20)
def rowB(u:Uni)(r:List Int):Bool:=decide ((r.length:Int)=u.2.2.1)&&shB r
def uniB(u:Uni):Bool:=wi u.2.2.1 1 6&&(decide (u.2.2.2.1.length=u.1.1.length)&&(decide (u.2.2.2.2.1.length=u.1.1.length)&&(qik u u.2.2.2.2.2.1&&(decide (u.2.2.2.2.2.1.length≤40)&&(decide (u.2.2.2.2.2.2.1.length≤12)&&(decide (u.2.2.2.2.2.2.2.1.length≤20)&&(u.2.2.2.1.all (fun x=>wi x 0 100000)&&(u.2.2.2.2.1.all (rowB u)&&(u.2.2.2.2.2.2.1.all (qnb u)&&(u.2.2.2.2.2.2.2.1.all (qpf u)&&(wi u.2.2.2.2.2.2.2.2.1 0 100&&(wi u.2.2.2.2.2.2.2.2.2.1 0 100&&(wi u.2.2.2.2.2.2.2.2.2.2.1 0 100000&&wi u.2.2.2.2.2.2.2.2.2.2.2 0 100000)))))))))))))
def chkU(u:Uni):Int:=if chkN u.1 u.2.1=0 then cond (uniB u) 0 110 else chkN u.1 u.2.1
theorem qDb{α β:Type}(p:α→Bool)(q:β→Bool):∀(a:List α) (b:List β),a.length=b.length→(List.zip a b).all (fun x=>p x.1&&q x.2)=(a.all p&&b.all q)
 | [],[],_=>rfl
 | [],_::_,h=>by simp at h
 | _::_,[],h=>by simp at h
 | x::a,y::b,h=>by
  rw[List.zip_cons_cons,List.all_cons,List.all_cons,List.all_cons,qDb p q a b (by simpa using h)]
  cases p x<;>cases q y<;>cases a.all p<;>cases b.all q<;>rfl
theorem qD7(n:Nat)(u:Uni)(hc:1≤u.2.2.1∧u.2.2.1≤6)(he:u.2.2.2.1.length=u.2.2.2.2.1.length)(hl:u.2.2.2.1.length≤1000)(hr:∀r,r∈u.2.2.2.2.1→r.length≤1000)(hn:2000≤n) :
  qb n (qf3 n) ((0:Int),(u,()))=some (cond (u.2.2.2.1.all (fun x=>wi x 0 100000)&&u.2.2.2.2.1.all (rowB u)) (.inl (u,())) (.inr (110,()))):=by
 have hz:(List.zip u.2.2.2.1 u.2.2.2.2.1).length=u.2.2.2.1.length:=by rw[List.length_zip];omega
 have h:=qm9 (step:=qf3 n) (List.zip u.2.2.2.1 u.2.2.2.2.1) (fun k=>((k:Int),(u,()))) (fun x=>wi x.1 0 100000&&rowB u x.2) (.inl (u,())) (.inr (110,())) (fun rec k hk=>by
  have h1:k<u.2.2.2.1.length:=by omega
  have h2:k<u.2.2.2.2.1.length:=by omega
  have hrr:=hr _ (List.getElem_mem h2)
  rw[qmz,List.getElem_zip]
  simp only[qv h1,cond_true,qw _ h1,qw _ h2,Option.bind_some,qgI,qBT n _ hrr hn,qi (show k<9223372036854775807 by omega)]
  cases wi (u.2.2.2.1[k]) 0 100000 with
  | false=>rfl
  | true =>
   simp only[Bool.not_true,cond_false,Bool.true_and]
   unfold rowB
   by_cases e:((u.2.2.2.2.1[k]).length:Int)=u.2.2.1
   ·rw[qev e,decide_eq_true e,show wi ((u.2.2.2.2.1[k]).length:Int) 1 6=true by rw[e];exact q7.2 hc]
    simp only[cond_false,Bool.and_true,Bool.true_and]
    cases shB (u.2.2.2.2.1[k])<;>rfl
   ·rw[qhM e,decide_eq_false e];rfl) (fun rec=>by
  rw[hz,qmz]
  simp only[qB,cond_false]) (n:=n) (by omega)
 have h':qb n (qf3 n) ((0:Int),(u,()))=_:=h
 rw[h',qDb (fun x=>wi x 0 100000) (rowB u) _ _ he]
theorem qD8(n:Nat)(u:Uni)(hc:1≤u.2.2.1∧u.2.2.1≤6)(hl:u.2.2.2.2.2.2.1.length≤1000)(hn:2000≤n) :
  qb n (qhI n) ((0:Int),(u,()))=some (cond (u.2.2.2.2.2.2.1.all (qnb u)) (.inl (u,())) (.inr (110,()))):=by
 exact qm9 (step:=qhI n) u.2.2.2.2.2.2.1 (fun k=>((k:Int),(u,()))) (qnb u) (.inl (u,())) (.inr (110,())) (fun rec k hk=>by
  rw[qmA]
  simp only[qv hk,cond_true,qw _ hk,Option.bind_some,qAl n u _ (by omega),qi (show k<9223372036854775807 by omega)]
  unfold qnb
  cases qmD u (u.2.2.2.2.2.2.1[k]).1<;>cases qmD u (u.2.2.2.2.2.2.1[k]).2<;>rfl) (fun rec=>by
  rw[qmA]
  simp only[qB,cond_false]) (n:=n) (by omega)
theorem qD9(n:Nat)(u:Uni)(hc:1≤u.2.2.1∧u.2.2.1≤6)(he:u.2.2.2.1.length=u.1.1.length)(hl:u.2.2.2.2.2.2.2.1.length≤1000)(hf:u.2.2.2.1.length≤1000)(hn:2000≤n) :
  qb n (qhJ n) ((0:Int),(u,()))=some (cond (u.2.2.2.2.2.2.2.1.all (qpf u)) (.inl (u,())) (.inr (110,()))):=by
 exact qm9 (step:=qhJ n) u.2.2.2.2.2.2.2.1 (fun k=>((k:Int),(u,()))) (qpf u) (.inl (u,())) (.inr (110,())) (fun rec k hk=>by
  rw[qmB]
  simp only[qv hk,cond_true,qw _ hk,Option.bind_some,qAl n u _ (by omega),qgI,qi (show k<9223372036854775807 by omega),qM (n:=iSub (u.2.2.2.1.length:Int) 1) (by unfold iSub;omega) (by unfold iSub;omega)]
  unfold qpf
  rw[← he]
  show _=cond (_&&(wi _ 0 (iSub (u.2.2.2.1.length:Int) 1)&&_)) _ _
  cases qmD u (u.2.2.2.2.2.2.2.1[k]).1<;>cases wi (u.2.2.2.2.2.2.2.1[k]).2.1 0 (iSub (u.2.2.2.1.length:Int) 1)<;>cases wi (u.2.2.2.2.2.2.2.1[k]).2.2 0 20<;>rfl) (fun rec=>by
  rw[qmB]
  simp only[qB,cond_false]) (n:=n) (by omega)
structure Small11 (u:Uni):Prop where
 hu:u.1.1.length≤20
 ln:u.2.1.length≤9∨(40<u.2.1.length∧u.2.1.length≤60)
 st:∀m,m∈u.2.1→m.2.2.2.2.length≤20
 fe:u.2.2.2.1.length≤20
 sh:u.2.2.2.2.1.length≤20
 rl:∀r,r∈u.2.2.2.2.1→r.length≤20
 gu:u.2.2.2.2.2.1.length≤42
 ri:u.2.2.2.2.2.2.1.length≤14
 wo:u.2.2.2.2.2.2.2.1.length≤22
theorem Small11.ms{u:Uni}(h:Small11 u):u.2.1.length≤60:=by rcases h.ln with h | h<;>omega
theorem Small11.near{u:Uni}(h:Small11 u):Near u.1 u.2.1:=⟨h.st,h.hu,h.ln⟩
theorem qAD(n:Nat)(u:Uni)(hs:Small11 u)(hn:5000≤n):qlN n (u,())=some (chkU u,()):=by
 have a1:=hs.hu;have a2:=hs.ms;have a3:=hs.fe;have a4:=hs.sh;have a5:=hs.gu;have a6:=hs.ri;have a7:=hs.wo
 rw[qsv]
 have h0:=qHe n u.1 u.2.1 (by omega) (by omega) (fun m hm=>by have:=hs.st m hm;omega) (by omega)
 show Option.bind (qiO n (u.1,(u.2.1,()))) _=_
 rw[h0,Option.bind_some]
 unfold chkU
 by_cases hk:chkN u.1 u.2.1=0
 ·rw[if_pos hk,qev hk]
  simp only[cond_false,qgI,Option.bind_some]
  unfold uniB
  cases hw:wi u.2.2.1 1 6 with
  | false=>rfl
  | true =>
   have hc:=q7.1 hw
   simp only[Bool.not_true,cond_false,Bool.true_and]
   by_cases e1:u.2.2.2.1.length=u.1.1.length
   ·rw[qev (show (u.2.2.2.1.length:Int)=u.1.1.length by omega),decide_eq_true e1]
    simp only[cond_false,Bool.true_and]
    by_cases e2:u.2.2.2.2.1.length=u.1.1.length
    ·rw[qev (show (u.2.2.2.2.1.length:Int)=u.1.1.length by omega),decide_eq_true e2]
     simp only[cond_false,Bool.true_and]
     rw[qBU n u (by omega) (by omega) (by omega),Option.bind_some]
     cases hg:(qik u u.2.2.2.2.2.1&&decide (u.2.2.2.2.2.1.length≤40)) with
     | false =>
      rw[show ∀x y z:Bool,(x&&(y&&z))=((x&&y)&&z) from fun x y z=>(Bool.and_assoc x y z).symm,hg];rfl
     | true =>
      rw[show ∀x y z:Bool,(x&&(y&&z))=((x&&y)&&z) from fun x y z=>(Bool.and_assoc x y z).symm,hg]
      simp only[Bool.not_true,cond_false,Bool.true_and]
      by_cases e3:u.2.2.2.2.2.2.1.length≤12
      ·rw[show iGt (u.2.2.2.2.2.2.1.length:Int) 12=false from decide_eq_false (by omega),decide_eq_true e3]
       simp only[cond_false,Bool.true_and]
       by_cases e4:u.2.2.2.2.2.2.2.1.length≤20
       ·rw[show iGt (u.2.2.2.2.2.2.2.1.length:Int) 20=false from decide_eq_false (by omega),decide_eq_true e4]
        simp only[cond_false,Bool.true_and]
        rw[qD7 n u hc (by omega) (by omega) (fun r hr=>by have:=hs.rl r hr;omega) (by omega),Option.bind_some]
        cases h5:(u.2.2.2.1.all (fun x=>wi x 0 100000)&&u.2.2.2.2.1.all (rowB u)) with
        | false =>
         rw[← Bool.and_assoc,h5];rfl
        | true =>
         rw[← Bool.and_assoc,h5]
         simp only[cond_true,Sum.elim_inl,Bool.true_and,qD8 n u hc (by omega) (by omega),Option.bind_some]
         cases u.2.2.2.2.2.2.1.all (qnb u) with
         | false=>rfl
         | true =>
          simp only[cond_true,Sum.elim_inl,Bool.true_and,qD9 n u hc e1 (by omega) (by omega) (by omega),Option.bind_some]
          cases u.2.2.2.2.2.2.2.1.all (qpf u) with
          | false=>rfl
          | true =>
           simp only[cond_true,Sum.elim_inl,Bool.true_and,qgI,Option.bind_some]
           cases wi u.2.2.2.2.2.2.2.2.1 0 100<;>cases wi u.2.2.2.2.2.2.2.2.2.1 0 100<;>cases wi u.2.2.2.2.2.2.2.2.2.2.1 0 100000<;>cases wi u.2.2.2.2.2.2.2.2.2.2.2 0 100000<;>rfl
       ·rw[show iGt (u.2.2.2.2.2.2.2.1.length:Int) 20=true from decide_eq_true (by omega),decide_eq_false e4];rfl
      ·rw[show iGt (u.2.2.2.2.2.2.1.length:Int) 12=true from decide_eq_true (by omega),decide_eq_false e3];rfl
    ·rw[qhM (show (u.2.2.2.2.1.length:Int)≠u.1.1.length by omega),decide_eq_false e2];rfl
   ·rw[qhM (show (u.2.2.2.1.length:Int)≠u.1.1.length by omega),decide_eq_false e1];rfl
 ·rw[if_neg hk,qhM hk];rfl
abbrev Cnt:=List (Int×Int)
def qgY(x:Int):Cnt→Int
 | []=>0
 | p::l=>if x=p.1 then p.2 else qgY x l
def qpg(x:Int)(v:Int):Cnt→Cnt
 | []=>[(x,v)]
 | p::l=>if x=p.1 then (p.1,v)::l else p::qpg x v l
def qry(x:Int):Cnt→Bool
 | []=>false
 | p::l=>if x=p.1 then true else qry x l
def ixLK(x:Int):Cnt→Nat
 | []=>0
 | p::l=>if x=p.1 then 0 else ixLK x l+1
theorem eqK(a b:Int):Ty.eqB (Ty.i .i64) a b=decide (a=b):=by
 show (a==b)=_
 by_cases h:a=b<;>simp[h]
theorem qBV(x:Int):∀(l:Cnt) (i:Nat),mpAt (Ty.i .i64) x l i=if qry x l then some (i+ixLK x l,qgY x l) else none
 | [],_=>rfl
 | p::l,i=>by
  unfold qry ixLK qgY
  show (match Ty.eqB (Ty.i .i64) x p.1 with
   | true=>some (i,p.2)
   | false=>mpAt (Ty.i .i64) x l (i+1))=_
  rw[show Ty.eqB (Ty.i .i64) x p.1=decide (x=p.1) from eqK x p.1]
  by_cases h:x=p.1
  ·rw[if_pos h,if_pos h,if_pos h,show decide (x=p.1)=true from decide_eq_true h]
   rfl
  ·rw[if_neg h,if_neg h,if_neg h,show decide (x=p.1)=false from decide_eq_false h]
   show mpAt (Ty.i .i64) x l (i+1)=_
   rw[qBV x l (i+1)]
   congr 2
   rw[show i+1+ixLK x l=i+(ixLK x l+1) by omega]
theorem qzx{x:Int}{v:Int}:∀{l:Cnt},qry x l=false→qgY x l=0∧qpg x v l=l++[(x,v)]∧ixLK x l=l.length
 | [],_=>⟨rfl,rfl,rfl⟩
 | p::l,h=>by
  unfold qry at h
  split at h
  ·cases h
  ·rename_i hx
   obtain ⟨h1,h2,h3⟩:=qzx (v:=v) h
   unfold qgY qpg ixLK
   rw[if_neg hx,if_neg hx,if_neg hx,h1,h2,h3]
   exact ⟨rfl,rfl,rfl⟩
theorem qBW{x:Int}{v:Int}:∀{l:Cnt},qry x l=true→qj0 (ixLK x l) v l=qpg x v l∧ixLK x l<l.length
 | [],h=>by cases h
 | p::l,h=>by
  unfold qry at h
  unfold ixLK qpg
  split at h
  ·rename_i hx
   rw[if_pos hx,if_pos hx]
   exact ⟨rfl,by simp⟩
  ·rename_i hx
   rw[if_neg hx,if_neg hx]
   obtain ⟨h1,h2⟩:=qBW (v:=v) h
   refine ⟨?_,by simp;omega⟩
   rw[← h1]
   simp[qj0]
theorem qFv(x:Int)(l:Cnt):qeu (Ty.i .i64) (0:Int) x l=qgY x l:=by
 unfold qeu
 rw[qBV x l 0]
 cases h:qry x l with
 | true=>rfl
 | false=>exact (qzx (v:=0) h).1.symm
theorem qwe(x z:Int)(v:Int):∀(l:Cnt),qgY z (qpg x v l)=if z=x then v else qgY z l
 | []=>by simp[qpg,qgY]
 | p::l=>by
  unfold qpg
  split
  ·rename_i hx
   unfold qgY
   by_cases h:z=x
   ·rw[if_pos h,if_pos (by rw[h,hx])]
   ·rw[if_neg h,if_neg (by rw[← hx];exact h),if_neg (by rw[← hx];exact h)]
  ·rename_i hx
   unfold qgY
   by_cases h:z=p.1
   ·rw[if_pos h,if_pos h,if_neg (fun e=>hx (by rw[← e,h]))]
   ·rw[if_neg h,if_neg h,qwe x z v l]
theorem qFw(x:Int)(v:Int)(l:Cnt):qgL (Ty.i .i64) v x l=qpg x v l:=by
 unfold qgL
 rw[qBV x l 0]
 cases h:qry x l with
 | true =>
  show qj0 (0+ixLK x l) v l=_
  rw[Nat.zero_add]
  exact (qBW h).1
 | false=>exact (qzx (v:=v) h).2.1.symm
theorem qlS(n:Nat)(a lo hi:Int):qbZ n (a,(lo,(hi,())))=some (wi a lo hi,()):=by
 rw[qwX]
 show cond (iLe lo a) (some ((iLe a hi),())) (some (false,()))=_
 unfold wi iLe
 by_cases h:lo≤a
 ·rw[decide_eq_true h];rfl
 ·rw[decide_eq_false h];rfl
theorem qyP(n:Nat)(x:Int):qke n (x,())=some (wi x 0 100,()):=by
 rw[qv9]
 show Option.bind (qbZ n (x,((0:Int),((100:Int),())))) _=_
 rw[qlS];rfl
theorem qFx(n:Nat)(x:Int):qnR n (x,())=some (wi x 0 100000,()):=by
 rw[qzn]
 show Option.bind (qbZ n (x,((0:Int),((100000:Int),())))) _=_
 rw[qlS];rfl
theorem qFy(n:Nat)(l:List Int)(p:Int→Bool)(hE:∀x,x∈l→qfE n (x,())=some (!p x,()))(hl:l.length≤1000)(hn:2000≤n):qgh n (l,(((),()),()))=some (l.all p,()):=by
 rw[qnm,qgF,qhb]
 have h1:=qeI (step:=qbT n) l (fun k=>(l,((l.length:Int),((k:Int),())))) (fun x=>!p x) (fun k=>.inr ((k:Int),())) (.inl ()) (fun rec k hk=>by
  rw[qda]
  simp only[qv hk,cond_true,qw l hk,Option.bind_some,hE _ (List.getElem_mem hk),qi (show k<9223372036854775807 by omega)]) (fun rec=>by
  rw[qda]
  simp only[qB,cond_false]) (n:=n) (by omega)
 rw[show l.all p = !l.any fun x=>!p x by simp[List.all_eq_not_any_not]]
 show Option.bind (Option.bind (Option.bind (qb n _ (l,((l.length:Int),(((0:Nat):Int),())))) _) _) _=_
 rcases h1 with ⟨h1,h2⟩ | ⟨k,hk,h1,_,h2⟩
 ·rw[h2,h1];rfl
 ·rw[h2,show (l.any fun x=>!p x)=true from List.any_eq_true.2 ⟨_,List.getElem_mem hk,h1⟩]
  show some (!iGe (k:Int) 0,())=_
  simp[iGe]
theorem qFz(n:Nat)(l:List Int)(p:Int→Bool)(hE:∀x,x∈l→qgT n (x,())=some (!p x,()))(hl:l.length≤1000)(hn:2000≤n):qhy n (l,(((),()),()))=some (l.all p,()):=by
 rw[qoG,qhn,qhV]
 have h1:=qeI (step:=qch n) l (fun k=>(l,((l.length:Int),((k:Int),())))) (fun x=>!p x) (fun k=>.inr ((k:Int),())) (.inl ()) (fun rec k hk=>by
  rw[qdP]
  simp only[qv hk,cond_true,qw l hk,Option.bind_some,hE _ (List.getElem_mem hk),qi (show k<9223372036854775807 by omega)]) (fun rec=>by
  rw[qdP]
  simp only[qB,cond_false]) (n:=n) (by omega)
 rw[show l.all p = !l.any fun x=>!p x by simp[List.all_eq_not_any_not]]
 show Option.bind (Option.bind (Option.bind (qb n _ (l,((l.length:Int),(((0:Nat):Int),())))) _) _) _=_
 rcases h1 with ⟨h1,h2⟩ | ⟨k,hk,h1,_,h2⟩
 ·rw[h2,h1];rfl
 ·rw[h2,show (l.any fun x=>!p x)=true from List.any_eq_true.2 ⟨_,List.getElem_mem hk,h1⟩]
  show some (!iGe (k:Int) 0,())=_
  simp[iGe]
theorem qFA(n:Nat)(l:List (List Int))(st:Uni×Unit)(p:(List Int)→Bool)(hE:∀x,x∈l→qfF n (x,st)=some (!p x,st))(hl:l.length≤1000)(hn:2000≤n):qgi n (l,st)=some (l.all p,st):=by
 rw[qnn,qgG,qhc]
 have h1:=qeI (step:=qbU n) l (fun k=>(l,((l.length:Int),((k:Int),st)))) (fun x=>!p x) (fun k=>.inr ((k:Int),st)) (.inl st) (fun rec k hk=>by
  rw[qdb]
  simp only[qv hk,cond_true,qw l hk,Option.bind_some,hE _ (List.getElem_mem hk),qi (show k<9223372036854775807 by omega)]) (fun rec=>by
  rw[qdb]
  simp only[qB,cond_false]) (n:=n) (by omega)
 rw[show l.all p = !l.any fun x=>!p x by simp[List.all_eq_not_any_not]]
 show Option.bind (Option.bind (Option.bind (qb n _ (l,((l.length:Int),(((0:Nat):Int),st)))) _) _) _=_
 rcases h1 with ⟨h1,h2⟩ | ⟨k,hk,h1,_,h2⟩
 ·rw[h2,h1];rfl
 ·rw[h2,show (l.any fun x=>!p x)=true from List.any_eq_true.2 ⟨_,List.getElem_mem hk,h1⟩]
  show some (!iGe (k:Int) 0,st)=_
  simp[iGe]
theorem qCv(n:Nat)(l:List qyO)(st:Uni×Unit)(p:qyO→Bool)(hE:∀x,x∈l→qci n (x,st)=some (!p x,st))(hl:l.length≤1000)(hn:2000≤n):qcv n (l,st)=some (l.all p,st):=by
 rw[qhW,qdB,qd5]
 have h1:=qeI (step:=qQ n) l (fun k=>(l,((l.length:Int),((k:Int),st)))) (fun x=>!p x) (fun k=>.inr ((k:Int),st)) (.inl st) (fun rec k hk=>by
  rw[qbt]
  simp only[qv hk,cond_true,qw l hk,Option.bind_some,hE _ (List.getElem_mem hk),qi (show k<9223372036854775807 by omega)]) (fun rec=>by
  rw[qbt]
  simp only[qB,cond_false]) (n:=n) (by omega)
 rw[show l.all p = !l.any fun x=>!p x by simp[List.all_eq_not_any_not]]
 show Option.bind (Option.bind (Option.bind (qb n _ (l,((l.length:Int),(((0:Nat):Int),st)))) _) _) _=_
 rcases h1 with ⟨h1,h2⟩ | ⟨k,hk,h1,_,h2⟩
 ·rw[h2,h1];rfl
 ·rw[h2,show (l.any fun x=>!p x)=true from List.any_eq_true.2 ⟨_,List.getElem_mem hk,h1⟩]
  show some (!iGe (k:Int) 0,st)=_
  simp[iGe]
theorem qEa(n:Nat)(l:List Work)(st:Uni×Unit)(p:Work→Bool)(hE:∀x,x∈l→qcr n (x,st)=some (!p x,st))(hl:l.length≤1000)(hn:2000≤n):qcB n (l,st)=some (l.all p,st):=by
 rw[qh4,qdR,qeb]
 have h1:=qeI (step:=qX n) l (fun k=>(l,((l.length:Int),((k:Int),st)))) (fun x=>!p x) (fun k=>.inr ((k:Int),st)) (.inl st) (fun rec k hk=>by
  rw[qbx]
  simp only[qv hk,cond_true,qw l hk,Option.bind_some,hE _ (List.getElem_mem hk),qi (show k<9223372036854775807 by omega)]) (fun rec=>by
  rw[qbx]
  simp only[qB,cond_false]) (n:=n) (by omega)
 rw[show l.all p = !l.any fun x=>!p x by simp[List.all_eq_not_any_not]]
 show Option.bind (Option.bind (Option.bind (qb n _ (l,((l.length:Int),(((0:Nat):Int),st)))) _) _) _=_
 rcases h1 with ⟨h1,h2⟩ | ⟨k,hk,h1,_,h2⟩
 ·rw[h2,h1];rfl
 ·rw[h2,show (l.any fun x=>!p x)=true from List.any_eq_true.2 ⟨_,List.getElem_mem hk,h1⟩]
  show some (!iGe (k:Int) 0,st)=_
  simp[iGe]
theorem qEb(n:Nat)(l:List Int)(hl:l.length≤1000)(hn:2000≤n):qqa n (l,())=some (shB l,()):=by
 rw[qwY]
 have h:=qrw (step:=qoa n) l (fun k (b:Int)=>(l,(b,(l,((l.length:Int),((k:Int),())))))) (fun b x=>iW (iAdd b x)) 0 (fun b=>(l,(b,()))) (fun rec k b hk _=>by
  rw[qpG]
  simp only[qv hk,cond_true,qw l hk,Option.bind_some,qi (show k<9223372036854775807 by omega)]) (fun rec b=>by
  rw[qpG]
  simp only[qB,cond_false]) (n:=n) (by omega)
 show Option.bind (qb n _ (l,((0:Int),(l,((l.length:Int),(((0:Nat):Int),())))))) _=_
 rw[h]
 simp only[Option.bind_some]
 rw[qFy n l (fun x=>wi x 0 100) (fun x _=>by
  rw[qmG,qyP];rfl) hl hn]
 unfold shB
 cases ha:l.all fun x=>wi x 0 100 with
 | false=>rfl
 | true =>
  have hb:∀x,x∈l→0≤x∧x≤100:=fun x hx=>q7.1 (List.all_eq_true.1 ha x hx)
  have fs:∀(m:List Int) (b:Int),(∀x,x∈m→0≤x∧x≤100)→0≤b→b+100*m.length≤1000000→m.foldl (fun b x=>iW (iAdd b x)) b=b+m.sum:=by
   intro m
   induction m with
   | nil=>intro b _ _ _;simp
   | cons x m ih =>
    intro b hm h0 hb
    have hx:=hm x List.mem_cons_self
    simp only[List.length_cons] at hb
    rw[List.foldl_cons,qM (by unfold iAdd;omega) (by unfold iAdd;omega),ih _ (fun y hy=>hm y (List.mem_cons_of_mem _ hy)) (by unfold iAdd;omega) (by unfold iAdd;omega)]
    unfold iAdd
    rw[List.sum_cons];omega
  simp only[Option.bind_some,cond_true,Bool.true_and]
  rw[fs l 0 hb (Int.le_refl _) (by omega),Int.zero_add]
  by_cases e:l.sum=100
  ·rw[qb4 e,decide_eq_true e]
  ·rw[qfS e,decide_eq_false e]
theorem qAm(n:Nat)(u:Uni)(x:Int)(hc:-1000≤u.2.2.1∧u.2.2.1≤1000):qjs n (x,(u,()))=some (qmD u x,(u,())):=by
 rw[qvm]
 show Option.bind (qbZ n (x,((0:Int),(iW (iSub u.2.2.1 1),())))) _=_
 rw[qM (by unfold iSub;omega) (by unfold iSub;omega),qlS]
 rfl
theorem qFB(n:Nat)(u:Uni)(r:List Int)(hl:r.length≤1000)(hn:2000≤n):qob n (r,(u,()))=some (rowB u r,(u,())):=by
 rw[qvn]
 unfold rowB
 show cond (iEq (r.length:Int) u.2.2.1) _ _=_
 by_cases e:(r.length:Int)=u.2.2.1
 ·rw[qb4 e,decide_eq_true e]
  simp only[cond_true,qEb n r hl hn,Option.bind_some,Bool.true_and]
 ·rw[qfS e,decide_eq_false e];rfl
theorem qFC(n:Nat)(u:Uni)(r:qyO)(hc:-1000≤u.2.2.1∧u.2.2.1≤1000):qgU n (r,(u,()))=some (qnb u r,(u,())):=by
 rw[qnT]
 simp only[qAm n u _ hc,Option.bind_some]
 unfold qnb
 cases qmD u r.1<;>rfl
theorem qFD(n:Nat)(u:Uni)(w:Work)(hc:-1000≤u.2.2.1∧u.2.2.1≤1000)(hh:u.1.1.length≤1000):qgV n (w,(u,()))=some (qpf u w,(u,())):=by
 rw[qnU]
 simp only[qAm n u _ hc,Option.bind_some,qlS,qM (n:=iSub (u.1.1.length:Int) 1) (by unfold iSub;omega) (by unfold iSub;omega)]
 unfold qpf
 show _=some (qmD u w.1&&(wi w.2.1 0 (iSub (u.1.1.length:Int) 1)&&wi w.2.2 0 20),(u,()))
 cases qmD u w.1<;>cases wi w.2.1 0 (iSub (u.1.1.length:Int) 1)<;>rfl
theorem qFE(n:Nat)(u:Uni)(g:qmC)(m:Cnt)(hc:-1000≤u.2.2.1∧u.2.2.1≤1000)(hm:0≤qgY g.1 m∧qgY g.1 m≤1000):qoc n (g,(m,(u,())))=some (qna u g&&decide (qgY g.1 m=0),(qpg g.1 (qgY g.1 m+1) m,(u,()))):=by
 rw[qvo]
 simp only[qlS,Option.bind_some,qFv,qFw,qwe,if_true,qM (n:=iSub u.2.2.1 1) (by unfold iSub;omega) (by unfold iSub;omega),qM (n:=iAdd (qgY g.1 m) 1) (by unfold iAdd;omega) (by unfold iAdd;omega),show (Int.negSucc 0) = -1 from rfl]
 have hg:qna u g=(wi g.1 0 99&&(wi g.2.1 (-1) (iSub u.2.2.1 1)&&wi g.2.2 0 20)):=rfl
 rw[hg]
 unfold iAdd
 by_cases e:qgY g.1 m=0
 ·rw[qb4 (show qgY g.1 m+1=1 by omega),decide_eq_true e]
  cases wi g.1 0 99<;>cases wi g.2.1 (-1) (iSub u.2.2.1 1)<;>cases wi g.2.2 0 20<;>rfl
 ·rw[qfS (show qgY g.1 m+1≠1 by omega),decide_eq_false e,Bool.and_false]
  cases wi g.1 0 99<;>rfl
theorem qFF(n:Nat)(u:Uni)(l:List qmC)(hc:-1000≤u.2.2.1∧u.2.2.1≤1000)(hl:l.length≤1000):∀(B A:List qmC) (m:Cnt) (n':Nat),l=A++B→(A.map (·.1)).Nodup→(∀x,qgY x m=if x∈A.map (·.1) then 1 else 0)→B.length<n' →
  ∃(m':Cnt) (j:Nat),qb n' (qbl n) (l,((l.length:Int),((A.length:Int),(m,(u,())))))=some (cond (B.all (qna u)&&decide ((l.map (·.1)).Nodup)) (.inl (m',(u,()))) (.inr ((j:Int),(m',(u,()))))):=by
 intro B
 induction B with
 | nil =>
  intro A m n' hq hA hm hn'
  obtain ⟨n',rfl⟩:∃m,n'=m+1:=⟨n'-1,by omega⟩
  rw[List.append_nil] at hq
  refine ⟨m,0,?_⟩
  rw[qc,qcn]
  simp only[hq,qB,cond_false,List.all_nil,Bool.true_and,decide_eq_true hA]
  rfl
 | cons x B ih =>
  intro A m n' hq hA hm hn'
  obtain ⟨n',rfl⟩:∃m,n'=m+1:=⟨n'-1,by omega⟩
  have hAl:A.length<l.length:=by rw[hq];simp
  have hx:l[A.length]?=some x:=by rw[hq];simp
  have hv:=hm x.1
  have hv2:0≤qgY x.1 m∧qgY x.1 m≤1000:=by rw[hv];split<;>omega
  rw[qc,qcn]
  simp only[qv hAl,cond_true,qi8,hx,Option.bind_some,qk5,qFE n u x m hc hv2]
  rw[List.all_cons]
  cases hg:qna u x with
  | false=>exact ⟨_,A.length,rfl⟩
  | true =>
   simp only[Bool.true_and]
   by_cases e:x.1∈A.map (·.1)
   ·have hnd:¬(l.map (·.1)).Nodup:=fun hnd=>by
     rw[hq,List.map_append,List.map_cons,List.nodup_append] at hnd
     exact hnd.2.2 x.1 e x.1 List.mem_cons_self rfl
    rw[decide_eq_false hnd,Bool.and_false,hv,if_pos e]
    exact ⟨_,A.length,rfl⟩
   ·rw[if_neg e] at hv
    rw[hv]
    simp only[decide_true,Bool.not_true,cond_false,qi (show A.length<9223372036854775807 by omega)]
    have:=ih (A++[x]) (qpg x.1 (0+1) m) n' (by rw[hq];simp) (by
     rw[List.map_append,List.nodup_append]
     refine ⟨hA,by simp,fun a ha b hb=>?_⟩
     simp only[List.map_cons,List.map_nil,List.mem_singleton] at hb
     subst hb
     exact fun h=>e (h ▸ ha)) (fun z=>by
     rw[qwe,hm z]
     by_cases hz:z=x.1
     ·rw[if_pos hz,if_pos (by rw[hz];simp)];rfl
     ·rw[if_neg hz]
      by_cases hz2:z∈A.map (·.1)
      ·rw[if_pos hz2,if_pos (by rw[List.map_append];exact List.mem_append_left _ hz2)]
      ·rw[if_neg hz2,if_neg (by
        rw[List.map_append]
        intro h
        rcases List.mem_append.1 h with h | h
        ·exact hz2 h
        ·simp only[List.map_cons,List.map_nil,List.mem_singleton] at h;exact hz h)]) (by simp at hn';omega)
    rw[List.length_append,List.length_cons,List.length_nil,Nat.zero_add] at this
    exact this
theorem qBX(n:Nat)(u:Uni)(l:List qmC)(hc:-1000≤u.2.2.1∧u.2.2.1≤1000)(hl:l.length≤1000)(hn:2000≤n):∃m',qeJ n (l,([],(u,())))=some (qik u l,(m',(u,()))):=by
 rw[qlL,qfc,qfG]
 obtain ⟨m',j,h⟩:=qFF n u l hc hl l [] [] n rfl List.nodup_nil (fun x=>by simp[qgY]) (by omega)
 refine ⟨m',?_⟩
 show Option.bind (Option.bind (Option.bind (qb n _ (l,((l.length:Int),((([]:List qmC).length:Int),([],(u,())))))) _) _) _=_
 rw[h]
 unfold qik
 cases l.all (qna u)&&decide ((l.map (·.1)).Nodup) with
 | true=>rfl
 | false =>
  show some (!iGe (j:Int) 0,(m',(u,())))=_
  rw[show iGe (j:Int) 0=true from decide_eq_true (by omega)]
  rfl
theorem qFG(n:Nat)(u:Uni)(hs:Small11 u)(hn:5000≤n):qqZ n (u,())=some (chkU u,()):=by
 have a1:=hs.hu;have a2:=hs.ms;have a3:=hs.fe;have a4:=hs.sh;have a5:=hs.gu;have a6:=hs.ri;have a7:=hs.wo
 rw[qxK]
 show Option.bind (qk2 n (u.1,(u.2.1,()))) _=_
 rw[qFu n u.1 u.2.1 hs.near (by omega),Option.bind_some]
 unfold chkU
 by_cases hk:chkN u.1 u.2.1=0
 ·rw[if_pos hk,qev hk]
  simp only[cond_false,qlS,Option.bind_some]
  unfold uniB
  cases hw:wi u.2.2.1 1 6 with
  | false=>rfl
  | true =>
   have hc:=q7.1 hw
   simp only[Bool.not_true,cond_false,Bool.true_and]
   by_cases e1:u.2.2.2.1.length=u.1.1.length
   ·rw[qev (show (u.2.2.2.1.length:Int)=u.1.1.length by omega),decide_eq_true e1]
    simp only[cond_false,Bool.true_and]
    rw[qFz n u.2.2.2.1 (fun x=>wi x 0 100000) (fun x _=>by rw[qnS,qFx];rfl) (by omega) (by omega),Option.bind_some]
    by_cases e2:u.2.2.2.2.1.length=u.1.1.length
    ·rw[qev (show (u.2.2.2.2.1.length:Int)=u.1.1.length by omega),decide_eq_true e2]
     simp only[cond_false,Bool.true_and]
     rw[qFA n u.2.2.2.2.1 (u,()) (rowB u) (fun r hr=>by rw[qmH,qFB n u r (by have:=hs.rl r hr;omega) (by omega)];rfl) (by omega) (by omega)]
     simp only[Option.bind_some]
     obtain ⟨m',hg⟩:=qBX n u u.2.2.2.2.2.1 (by omega) (by omega) (by omega)
     rw[hg]
     simp only[Option.bind_some]
     rw[qCv n u.2.2.2.2.2.2.1 (u,()) (qnb u) (fun r _=>by rw[qhz,qFC n u r (by omega)];rfl) (by omega) (by omega)]
     simp only[Option.bind_some]
     rw[qEa n u.2.2.2.2.2.2.2.1 (u,()) (qpf u) (fun w _=>by rw[qhG,qFD n u w (by omega) (by omega)];rfl) (by omega) (by omega)]
     simp only[Option.bind_some,qyP,qFx]
     by_cases e3:u.2.2.2.2.2.1.length≤40
     ·by_cases e4:u.2.2.2.2.2.2.1.length≤12
      ·by_cases e5:u.2.2.2.2.2.2.2.1.length≤20
       ·rw[show iGt (u.2.2.2.2.2.1.length:Int) 40=false from decide_eq_false (by omega),show iGt (u.2.2.2.2.2.2.1.length:Int) 12=false from decide_eq_false (by omega),show iGt (u.2.2.2.2.2.2.2.1.length:Int) 20=false from decide_eq_false (by omega),decide_eq_true e3,decide_eq_true e4,decide_eq_true e5]
        cases u.2.2.2.1.all (fun x=>wi x 0 100000) with
        | false=>cases qik u u.2.2.2.2.2.1<;>rfl
        | true =>
         cases u.2.2.2.2.1.all (rowB u) with
         | false=>cases qik u u.2.2.2.2.2.1<;>rfl
         | true =>
          cases qik u u.2.2.2.2.2.1 with
          | false=>rfl
          | true =>
           cases u.2.2.2.2.2.2.1.all (qnb u) with
           | false=>rfl
           | true =>
            cases u.2.2.2.2.2.2.2.1.all (qpf u) with
            | false=>rfl
            | true =>
             cases wi u.2.2.2.2.2.2.2.2.1 0 100<;>cases wi u.2.2.2.2.2.2.2.2.2.1 0 100<;>cases wi u.2.2.2.2.2.2.2.2.2.2.1 0 100000<;>cases wi u.2.2.2.2.2.2.2.2.2.2.2 0 100000<;>rfl
       ·rw[show iGt (u.2.2.2.2.2.2.2.1.length:Int) 20=true from decide_eq_true (by omega),decide_eq_false e5]
        cases u.2.2.2.1.all (fun x=>wi x 0 100000)<;>cases u.2.2.2.2.1.all (rowB u)<;>cases iGt (u.2.2.2.2.2.1.length:Int) 40<;>cases qik u u.2.2.2.2.2.1<;>cases iGt (u.2.2.2.2.2.2.1.length:Int) 12<;>cases decide (u.2.2.2.2.2.1.length≤40)<;>cases decide (u.2.2.2.2.2.2.1.length≤12)<;>cases u.2.2.2.2.2.2.1.all (qnb u)<;>rfl
      ·rw[show iGt (u.2.2.2.2.2.2.1.length:Int) 12=true from decide_eq_true (by omega),decide_eq_false e4]
       cases u.2.2.2.1.all (fun x=>wi x 0 100000)<;>cases u.2.2.2.2.1.all (rowB u)<;>cases iGt (u.2.2.2.2.2.1.length:Int) 40<;>cases qik u u.2.2.2.2.2.1<;>cases decide (u.2.2.2.2.2.1.length≤40)<;>rfl
     ·rw[show iGt (u.2.2.2.2.2.1.length:Int) 40=true from decide_eq_true (by omega),decide_eq_false e3]
      cases u.2.2.2.1.all (fun x=>wi x 0 100000)<;>cases u.2.2.2.2.1.all (rowB u)<;>cases qik u u.2.2.2.2.2.1<;>rfl
    ·rw[qhM (show (u.2.2.2.2.1.length:Int)≠u.1.1.length by omega),decide_eq_false e2]
     cases u.2.2.2.1.all (fun x=>wi x 0 100000)<;>rfl
   ·rw[qhM (show (u.2.2.2.1.length:Int)≠u.1.1.length by omega),decide_eq_false e1];rfl
 ·rw[if_neg hk,qhM hk];rfl
end Go.Proofs.YtcjcacbhkoainaaGreatDoor
