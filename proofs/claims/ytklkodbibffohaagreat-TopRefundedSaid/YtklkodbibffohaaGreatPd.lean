/- Texts Dp17, Dp18, Dc0, Dc1, Dc2, Dc3 in one. -/
import Derived.Test.YtklkodbibffohaaGreatPc
import Derived.Test.YtklkodbibffohaaGreatDqQ
/- Beds, plain: Check of whatever there is. -/
set_option linter.constructorNameAsVariable false
set_option linter.unusedSimpArgs false
set_option linter.unusedVariables false
set_option linter.unusedSectionVars false
namespace Go.Proofs.YtklkodbibffohaaGreat
open Go Go.Proofs Go.RowKit
set_option maxHeartbeats 1000000
def qL2(x y:Msg):Bool:=decide (y.2.1=x.2.1)&&decide (y.1=x.1)
def adjK:List Msg→Bool
 | x::y::l=>qL2 x y||adjK (y::l)
 | _=>false
theorem qPO:∀(q:List Msg),adjK q=true↔∃i,∃h:i+1<q.length,qL2 q[i] q[i+1]=true
 | []=>by simp[adjK]
 | [x]=>by simp[adjK]
 | x::y::l=>by
  unfold adjK
  rw[Bool.or_eq_true,qPO (y::l)]
  constructor
  ·rintro (h | ⟨i,h1,h2⟩)
   ·exact ⟨0,by simp,h⟩
   ·exact ⟨i+1,by simpa using h1,by simpa using h2⟩
  ·rintro ⟨i,h1,h2⟩
   cases i with
   | zero=>exact .inl h2
   | succ i=>exact .inr ⟨i,by simpa using h1,by simpa using h2⟩
theorem qVr(n:Nat)(q:List Msg)(hl:q.length≤1000):∀(B A:List Msg) (p:Msg) (n':Nat),q=A++p::B→B.length<n' →
  qe n' (qxt n) (q,(q,((q.length:Int),(((A.length+1:Nat):Int),()))))=some (cond (adjK (p::B)) (.inr (true,())) (.inl ())):=by
 intro B
 induction B with
 | nil =>
  intro A p n' hq hn
  obtain ⟨n',rfl⟩:∃m,n'=m+1:=⟨n'-1,by omega⟩
  have e:A.length+1=q.length:=by rw[hq];simp
  rw[ql,ql2]
  simp only[e,qT,cond_false]
  rfl
 | cons y B ih =>
  intro A p n' hq hn
  simp only[List.length_cons] at hn
  obtain ⟨n',rfl⟩:∃m,n'=m+1:=⟨n'-1,by omega⟩
  have e:A.length+1<q.length:=by rw[hq];simp
  have e1:q[A.length+1]?=some y:=by rw[hq];exact app1 _ _ _ _
  have e0:q[A.length]?=some p:=by rw[hq];exact app0 _ _ _ _
  have ih':=ih (A++[p]) y n' (by rw[hq];simp) (by omega)
  rw[List.length_append,List.length_singleton] at ih'
  rw[ql,ql2]
  simp only[qN e,cond_true,qn3,e1,qFR,qz0 (show A.length<9223372036854775807 by omega),e0,Option.bind_some,qw (show A.length+1<9223372036854775807 by omega)]
  unfold adjK qL2
  by_cases h1:y.2.1=p.2.1
  ·rw[qdp h1]
   by_cases h2:y.1=p.1
   ·rw[qdp h2];simp[h1,h2]
   ·rw[qhw h2];simp only[cond_true,cond_false,h2,decide_false,Bool.and_false,Bool.false_or];exact ih'
  ·rw[qhw h1];simp only[cond_false,h1,decide_false,Bool.false_and,Bool.false_or];exact ih'
theorem qVs(n:Nat)(q:List Msg)(hl:q.length≤1000)(hn:2000≤n):qAX n (q,())=some (adjK q,()):=by
 rw[qG8]
 obtain ⟨n,rfl⟩:∃m,n=m+1:=⟨n-1,by omega⟩
 cases q with
 | nil =>
  rw[ql,ql2]
  rfl
 | cons p B =>
  have h:=qVr (n+1) (p::B) hl B [] p n rfl (by simp at hl;omega)
  simp only[List.length_nil,Nat.zero_add] at h
  have e:(0:Int)<((p::B).length:Int):=by rw[List.length_cons];omega
  rw[ql,ql2]
  simp only[show iLt 0 ((p::B).length:Int)=true from decide_eq_true e,cond_true,qNB,Option.bind_some,show iGt 0 0=false from rfl,cond_false]
  rw[show iW (iAdd 0 1)=((1:Nat):Int) from rfl,h]
  cases adjK (p::B)<;>rfl
theorem qUi{l:List Msg}(hk:∀m,m∈l→m.1=1∨m.1=2):adjK (qeB l)=qqe l:=by
 have hs:(qeB l).Pairwise (fun a b=>key1 a≤key1 b):=by
  have h1:=qFT (fun x y=>decide (cmpM x y<0)) key1 l fun x y hx hy=>by
   have:=qSj (hk x hx) (hk y hy)
   simpa using this
  exact h1.sublist (qLS _)
 have hadj:=qFS (qsQ (fun x y=>decide (cmpM x y<0)) l)
 have hkd:∀m,m∈qeB l→m.1=1∨m.1=2:=fun m hm=>hk m (qfn.1 hm)
 cases hc:qqe l with
 | false =>
  rw[← Bool.not_eq_true]
  intro h
  obtain ⟨i,h1,h2⟩:=(qPO _).1 h
  unfold qL2 at h2
  simp only[Bool.and_eq_true,decide_eq_true_eq] at h2
  exact qPv _ hadj i h1 (qwZ hc _ _ (qfn.1 (List.getElem_mem _)) (qfn.1 (List.getElem_mem _)) h2.1 h2.2)
 | true =>
  have hne:¬∀x y,x∈l→y∈l→x.2.1=y.2.1→x.1=y.1→x=y:=fun h=>by rw[qLT h] at hc;cases hc
  have:∃x y,x∈l∧y∈l∧x.2.1=y.2.1∧x.1=y.1∧x≠y:=by
   refine Classical.byContradiction fun h=>hne fun x y hx hy h1 h2=>Classical.byContradiction fun h3=>h ⟨x,y,hx,hy,h1,h2,h3⟩
  obtain ⟨x,y,hx,hy,h1,h2,h3⟩:=this
  have key:∀i j (hi:i<(qeB l).length) (hj:j<(qeB l).length),i<j→key1 (qeB l)[i]=key1 (qeB l)[j]→adjK (qeB l)=true:=fun i j hi hj hij e=>by
   rw[List.pairwise_iff_getElem] at hs
   have e1:=hs i (i+1) hi (by omega) (by omega)
   have e2:key1 (qeB l)[i+1]≤key1 (qeB l)[j]:=by
    rcases Nat.lt_or_ge (i+1) j with h | h
    ·exact hs (i+1) j (by omega) hj h
    ·have:j=i+1:=by omega
     subst this;exact Int.le_refl _
   refine (qPO _).2 ⟨i,by omega,?_⟩
   have k1:=hkd (qeB l)[i] (List.getElem_mem _)
   have k2:=hkd (qeB l)[i+1] (List.getElem_mem _)
   unfold key1 at e e1 e2
   unfold qL2
   simp only[Bool.and_eq_true,decide_eq_true_eq]
   omega
  obtain ⟨i,hi,ei⟩:=List.mem_iff_getElem.1 (qfn.2 hx)
  obtain ⟨j,hj,ej⟩:=List.mem_iff_getElem.1 (qfn.2 hy)
  have ek:key1 (qeB l)[i]=key1 (qeB l)[j]:=by rw[ei,ej];unfold key1;omega
  rcases Nat.lt_trichotomy i j with h | h | h
  ·exact key i j hi hj h ek
  ·subst h;exact absurd (ei.symm.trans ej) h3
  ·exact key j i hj hi h ek.symm
structure Near (c:Chn) (l:List Msg):Prop where
 st:∀m,m∈l→m.2.2.2.2.length≤20
 hu:c.1.length≤20
 ln:l.length≤9∨(40<l.length∧l.length≤60)
theorem qVt{c:Chn}{l:List Msg}(h:farB c l=false):Near c l:=by
 obtain ⟨h1,h2⟩:=qT7 h
 refine ⟨h1,h2,?_⟩
 unfold farB at h
 simp only[Bool.or_eq_false_iff,Bool.and_eq_false_iff,decide_eq_false_iff_not] at h
 omega
theorem qVu(n:Nat)(c:Chn)(l:List Msg)(V:Near c l)(hn:2000≤n):qto n (c,(l,()))=some (chkN c l,()):=by
 have hu:=V.hu
 have hs:∀z,z∈l→z.2.2.2.2.length≤1000:=fun z hz=>by have:=V.st z hz;omega
 rw[qG9,qXu n c (by omega) hn]
 unfold chkN
 cases hc:qir c with
 | false=>rfl
 | true =>
  obtain ⟨h1,h2,h3,h4⟩:=qHd hc
  simp only[Option.bind_some,Bool.not_true,cond_false,cond_true]
  rw[qwX]
  by_cases hl:l.length≤40
  ·have hl9:l.length≤9:=by rcases V.ln with h | h<;>omega
   obtain ⟨u,hu⟩:=qIC n c l (by omega) (by omega) (by omega) (by omega) hs hn
   have c1:iGt (l.length:Int) 40=false:=decide_eq_false (by omega)
   simp only[c1,cond_false,hu,Option.bind_some,hl,decide_true,Bool.and_true]
   rw[show (l.any fun m=>!mesB c m) = !l.all (mesB c) by simp[List.all_eq_not_any_not]]
   cases hm:l.all (mesB c) with
   | false=>rfl
   | true =>
    have hk:∀m,m∈l→m.1=1∨m.1=2:=fun m h=>by rw[List.all_eq_true] at hm;exact (qPz (hm m h)).1
    simp only[Bool.not_true,cond_false,qHG n l (by omega) hs hn,Option.bind_some,qVs n (qeB l) (by have:=qDg l;omega) hn,qUi hk,cond_true]
    cases qqe l<;>rfl
  ·have c1:iGt (l.length:Int) 40=true:=decide_eq_true (by omega)
   simp only[c1,cond_true,hl,decide_false,Bool.and_false,cond_false]
   rfl
end Go.Proofs.YtklkodbibffohaaGreat
/- Beds, plain: the reference decides. -/
namespace Go.Proofs.YtklkodbibffohaaGreat
open Go Go.Proofs Go.RowKit
set_option maxHeartbeats 1000000
theorem qNZ{nh nn:Int}:∀{ss:List Stay} {last:Int},qqd nh nn last ss=true→-1≤last→∀s,s∈ss→(0≤s.1∧s.1≤nh-1)∧0≤s.2.1∧s.2.2<nn∧s.2.1≤s.2.2
 | [],_,_,_,s,hs=>by cases hs
 | z::ss,last,h,hl,s,hs=>by
  unfold qqd at h
  simp only[Bool.and_eq_true,qeK,decide_eq_true_eq] at h
  rcases List.mem_cons.1 hs with rfl | hs
  ·omega
  ·exact qNZ h.2 (by omega) s hs
structure RefOk (c:Chn) (m:Msg):Prop where
 ok:MsgOk c m
 st:qqd c.1.length c.2 (-1) m.2.2.2.2=true
 ln:m.2.2.2.2.length≤20
end Go.Proofs.YtklkodbibffohaaGreat
/- Clubs, plain: what a valid union is; the reference's Check. -/
namespace Go.Proofs.YtklkodbibffohaaGreat
open Go Go.Proofs Go.RowKit
set_option maxHeartbeats 1000000
abbrev quS:=Int×(Int×Int)
abbrev qMp:=Int×Int
abbrev Work:=Int×(Int×Int)
abbrev Uni:=Chn×(List Msg×(Int×(List Int×(List (List Int)×(List quS×(List qMp×(List Work×(Int×(Int×(Int×Int))))))))))
theorem qpx(n:Nat)(a lo hi:Int):q6 n (a,(lo,(hi,())))=some (wi a lo hi,()):=by
 rw[qGm]
 show cond (iGe a lo) (some ((iLe a hi),())) (some (false,()))=_
 unfold wi iGe iLe
 by_cases h:a≥lo
 ·rw[decide_eq_true h];rfl
 ·rw[decide_eq_false h];rfl
def shB(l:List Int):Bool:=l.all (fun x=>wi x 0 100)&&decide (l.sum=100)
theorem qYN{l:List Int}(h:∀x,x∈l→0≤x∧x≤100):0≤l.sum∧l.sum≤100*l.length:=by
 induction l with
 | nil=>simp
 | cons x l ih =>
  have h1:=h x List.mem_cons_self
  have h2:=ih fun y hy=>h y (List.mem_cons_of_mem _ hy)
  simp only[List.sum_cons,List.length_cons]
  omega
theorem qSl(n:Nat)(l:List Int)(hl:l.length≤1000)(hn:2000≤n):qqs n (l,())=some (shB l&&wi (l.length:Int) 1 6,()):=by
 rw[qDr]
 have key:∀(B A:List Int) (n':Nat),l=A++B→(∀x,x∈A→0≤x∧x≤100)→B.length<n'→qe n' (qoB n) (l,(A.sum,((A.length:Int),())))=some (cond (B.all fun x=>wi x 0 100) (.inl (l,(l.sum,()))) (.inr (false,()))):=by
  intro B
  induction B with
  | nil =>
   intro A n' hq hA hn'
   obtain ⟨n',rfl⟩:∃m,n'=m+1:=⟨n'-1,by omega⟩
   rw[List.append_nil] at hq
   rw[ql,qsy]
   simp only[hq,qT,cond_false]
   rfl
  | cons x B ih =>
   intro A n' hq hA hn'
   obtain ⟨n',rfl⟩:∃m,n'=m+1:=⟨n'-1,by omega⟩
   have hAl:A.length<l.length:=by rw[hq];simp
   have hx:l[A.length]?=some x:=by rw[hq];simp
   have hsum:=qYN hA
   rw[ql,qsy]
   simp only[qN hAl,cond_true,qn3,hx,Option.bind_some,qpx]
   rw[List.all_cons]
   cases hw:wi x 0 100 with
   | false=>rfl
   | true =>
    have hx2:=qeK.1 hw
    simp only[Bool.not_true,cond_false,Bool.true_and]
    rw[show iW (iAdd A.sum x)=(A++[x]).sum by rw[qfb (by unfold iAdd;omega) (by unfold iAdd;omega)];simp,qw (by omega),show A.length+1=(A++[x]).length by simp]
    exact ih (A++[x]) n' (by rw[hq];simp) (fun y hy=>by
     rcases List.mem_append.1 hy with hy | hy
     ·exact hA y hy
     ·rw[List.mem_singleton] at hy;rw[hy];exact hx2) (by simp at hn';omega)
 have h:=key l [] n rfl (fun x hx=>by cases hx) (by omega)
 show Option.bind (qe n _ (l,((([]:List Int).sum),((([]:List Int).length:Int),())))) _=_
 rw[h]
 unfold shB
 cases l.all fun x=>wi x 0 100 with
 | false=>rfl
 | true =>
  simp only[cond_true,Option.bind_some,Sum.elim_inl,Bool.true_and,qpx,Int.ofNat_eq_natCast]
  by_cases e:l.sum=100
  ·rw[qdp e,decide_eq_true e];rfl
  ·rw[qhw e,decide_eq_false e];rfl
def qwd(u:Uni)(x:Int):Bool:=wi x 0 (u.2.2.1-1)
theorem qQA(n:Nat)(u:Uni)(x:Int)(hc:-1000≤u.2.2.1∧u.2.2.1≤1000):qlg n (u,(x,()))=some (qwd u x,()):=by
 rw[qGn]
 show Option.bind (q6 n (x,((0:Int),(iW (iSub u.2.2.1 1),())))) _=_
 rw[qfb (by unfold iSub;omega) (by unfold iSub;omega),qpx]
 rfl
def qxi(u:Uni)(g:quS):Bool:=wi g.1 0 99&&(wi g.2.1 (-1) (u.2.2.1-1)&&wi g.2.2 0 20)
def qob(u:Uni)(l:List quS):Bool:=l.all (qxi u)&&decide ((l.map (·.1)).Nodup)
theorem qQV(n:Nat)(u:Uni)(i:Nat)(g:quS)(hi:i<u.2.2.2.2.2.1.length)(hg:u.2.2.2.2.2.1[i]=g)(hl:u.2.2.2.2.2.1.length≤1000)(hn:2000≤n) :
  qe n (qky n) ((i:Int),((0:Int),(u,(g,()))))=some (cond ((u.2.2.2.2.2.1.take i).any fun x=>decide (x.1=g.1)) (.inr (false,())) (.inl ((i:Int),(u,())))):=by
 have hti:(u.2.2.2.2.2.1.take i).length=i:=by simp;omega
 exact qwY (step:=qky n) (u.2.2.2.2.2.1.take i) (fun k=>((i:Int),((k:Int),(u,(g,()))))) (fun x=>decide (x.1=g.1)) (.inr (false,())) (.inl ((i:Int),(u,()))) (fun rec k hk=>by
  have hk':k<i:=by omega
  rw[qsz]
  simp only[qN hk',cond_true,qZ _ (show k<u.2.2.2.2.2.1.length by omega),Option.bind_some,qw (show k<9223372036854775807 by omega),List.getElem_take]
  by_cases e:(u.2.2.2.2.2.1[k]).1=g.1
  ·rw[qdp e,decide_eq_true e]
  ·rw[qhw e,decide_eq_false e]) (fun rec=>by
  rw[hti,qsz]
  simp only[qT,cond_false]) (n:=n) (by omega)
theorem qSm(n:Nat)(u:Uni)(hc:-1000≤u.2.2.1∧u.2.2.1≤1000)(hl:u.2.2.2.2.2.1.length≤1000)(hn:2000≤n):qqt n (u,())=some (qob u u.2.2.2.2.2.1&&decide (u.2.2.2.2.2.1.length≤40),()):=by
 rw[qDs]
 obtain ⟨l,hL⟩:∃l,l=u.2.2.2.2.2.1:=⟨_,rfl⟩
 have key:∀(B A:List quS) (n':Nat),l=A++B→(A.map (·.1)).Nodup→B.length<n'→qe n' (qoC n) ((A.length:Int),(u,()))=some (cond (B.all (qxi u)&&decide ((l.map (·.1)).Nodup)) (.inl (u,())) (.inr (false,()))):=by
  intro B
  induction B with
  | nil =>
   intro A n' hq hA hn'
   obtain ⟨n',rfl⟩:∃m,n'=m+1:=⟨n'-1,by omega⟩
   rw[List.append_nil] at hq
   rw[ql,qsA]
   simp only[← hL,hq,qT,cond_false,List.all_nil,Bool.true_and,decide_eq_true hA]
   rfl
  | cons x B ih =>
   intro A n' hq hA hn'
   obtain ⟨n',rfl⟩:∃m,n'=m+1:=⟨n'-1,by omega⟩
   have hAl:A.length<l.length:=by rw[hq];simp
   have hx:l[A.length]?=some x:=by rw[hq];simp
   have hxe:l[A.length]=x:=by rw[List.getElem?_eq_getElem hAl] at hx;injection hx
   have htk:l.take A.length=A:=by rw[hq];simp
   have hll:l.length≤1000:=by rw[hL];exact hl
   rw[ql,qsA]
   simp only[← hL,qN hAl,cond_true,qn3,hx,Option.bind_some,qpx,qfb (n:=iSub u.2.2.1 1) (by unfold iSub;omega) (by unfold iSub;omega),show (Int.negSucc 0) = -1 from rfl]
   rw[List.all_cons]
   have h1:=qQV n u A.length x (by rw[← hL];exact hAl) (by subst hL;exact hxe) hl hn
   rw[← hL,htk] at h1
   have hg:qxi u x=(wi x.1 0 99&&(wi x.2.1 (-1) (iSub u.2.2.1 1)&&wi x.2.2 0 20)):=rfl
   cases h2:wi x.1 0 99 with
   | false=>rw[hg,h2];rfl
   | true =>
    cases h3:wi x.2.1 (-1) (iSub u.2.2.1 1) with
    | false=>rw[hg,h2,h3];rfl
    | true =>
     cases h4:wi x.2.2 0 20 with
     | false=>rw[hg,h2,h3,h4];rfl
     | true =>
      rw[hg,h2,h3,h4]
      simp only[Bool.not_true,cond_false,Bool.true_and,h1]
      cases ha:A.any fun y=>decide (y.1=x.1) with
      | true =>
       obtain ⟨y,hy,hyx⟩:=List.any_eq_true.1 ha
       have hnd:¬(l.map (·.1)).Nodup:=fun hnd=>by
        rw[hq,List.map_append,List.map_cons,List.nodup_append] at hnd
        exact hnd.2.2 y.1 (List.mem_map_of_mem hy) x.1 List.mem_cons_self (of_decide_eq_true hyx)
       rw[decide_eq_false hnd,Bool.and_false]
       rfl
      | false =>
       simp only[cond_false,Option.bind_some,Sum.elim_inl,qw (show A.length<9223372036854775807 by omega)]
       have:=ih (A++[x]) n' (by rw[hq];simp) (by
        rw[List.map_append,List.nodup_append]
        refine ⟨hA,by simp,fun a ha' b hb=>?_⟩
        obtain ⟨y,hy,rfl⟩:=List.mem_map.1 ha'
        simp only[List.map_cons,List.map_nil,List.mem_singleton] at hb
        rw[hb]
        rw[List.any_eq_false] at ha
        have:=ha y hy
        simpa using this) (by simp at hn';omega)
       rw[List.length_append,List.length_cons,List.length_nil,Nat.zero_add] at this
       exact this
 have h:=key l [] n rfl List.nodup_nil (by rw[hL];omega)
 rw[show (((0:Int),(u,())):Int×(Uni×Unit))=((([]:List quS).length:Int),(u,())) from rfl,h]
 unfold qob
 rw[← hL]
 cases l.all (qxi u)&&decide ((l.map (·.1)).Nodup) with
 | false=>rfl
 | true =>
  simp only[cond_true,Option.bind_some,Sum.elim_inl,Bool.true_and,← hL]
  by_cases e:l.length≤40
  ·rw[show iLe (l.length:Int) 40=true from decide_eq_true (by omega),decide_eq_true e]
  ·rw[show iLe (l.length:Int) 40=false from decide_eq_false (by omega),decide_eq_false e]
def qxj(u:Uni)(r:qMp):Bool:=qwd u r.1&&qwd u r.2
def qBt(u:Uni)(w:Work):Bool:=qwd u w.1&&(wi w.2.1 0 ((u.1.1.length:Int)-1)&&wi w.2.2 0 20)
def rowB(u:Uni)(r:List Int):Bool:=decide ((r.length:Int)=u.2.2.1)&&shB r
def uniB(u:Uni):Bool:=wi u.2.2.1 1 6&&(decide (u.2.2.2.1.length=u.1.1.length)&&(decide (u.2.2.2.2.1.length=u.1.1.length)&&(qob u u.2.2.2.2.2.1&&(decide (u.2.2.2.2.2.1.length≤40)&&(decide (u.2.2.2.2.2.2.1.length≤12)&&(decide (u.2.2.2.2.2.2.2.1.length≤20)&&(u.2.2.2.1.all (fun x=>wi x 0 100000)&&(u.2.2.2.2.1.all (rowB u)&&(u.2.2.2.2.2.2.1.all (qxj u)&&(u.2.2.2.2.2.2.2.1.all (qBt u)&&(wi u.2.2.2.2.2.2.2.2.1 0 100&&(wi u.2.2.2.2.2.2.2.2.2.1 0 100&&(wi u.2.2.2.2.2.2.2.2.2.2.1 0 100000&&wi u.2.2.2.2.2.2.2.2.2.2.2 0 100000)))))))))))))
def chkU(u:Uni):Int:=if chkN u.1 u.2.1=0 then cond (uniB u) 0 110 else chkN u.1 u.2.1
end Go.Proofs.YtklkodbibffohaaGreat
/- Clubs, plain: the reference's Check. -/
namespace Go.Proofs.YtklkodbibffohaaGreat
open Go Go.Proofs Go.RowKit
set_option maxHeartbeats 1000000
theorem qTx{α β:Type}(p:α→Bool)(q:β→Bool):∀(a:List α) (b:List β),a.length=b.length→(List.zip a b).all (fun x=>p x.1&&q x.2)=(a.all p&&b.all q)
 | [],[],_=>rfl
 | [],_::_,h=>by simp at h
 | _::_,[],h=>by simp at h
 | x::a,y::b,h=>by
  rw[List.zip_cons_cons,List.all_cons,List.all_cons,List.all_cons,qTx p q a b (by simpa using h)]
  cases p x<;>cases q y<;>cases a.all p<;>cases b.all q<;>rfl
theorem qUj(n:Nat)(u:Uni)(hc:1≤u.2.2.1∧u.2.2.1≤6)(he:u.2.2.2.1.length=u.2.2.2.2.1.length)(hl:u.2.2.2.1.length≤1000)(hr:∀r,r∈u.2.2.2.2.1→r.length≤1000)(hn:2000≤n) :
  qe n (qkr n) ((0:Int),(u,()))=some (cond (u.2.2.2.1.all (fun x=>wi x 0 100000)&&u.2.2.2.2.1.all (rowB u)) (.inl (u,())) (.inr (110,()))):=by
 have hz:(List.zip u.2.2.2.1 u.2.2.2.2.1).length=u.2.2.2.1.length:=by rw[List.length_zip];omega
 have h:=qzY (step:=qkr n) (List.zip u.2.2.2.1 u.2.2.2.2.1) (fun k=>((k:Int),(u,()))) (fun x=>wi x.1 0 100000&&rowB u x.2) (.inl (u,())) (.inr (110,())) (fun rec k hk=>by
  have h1:k<u.2.2.2.1.length:=by omega
  have h2:k<u.2.2.2.2.1.length:=by omega
  have hrr:=hr _ (List.getElem_mem h2)
  rw[qwa,List.getElem_zip]
  simp only[qN h1,cond_true,qZ _ h1,qZ _ h2,Option.bind_some,qpx,qSl n _ hrr hn,qw (show k<9223372036854775807 by omega)]
  cases wi (u.2.2.2.1[k]) 0 100000 with
  | false=>rfl
  | true =>
   simp only[Bool.not_true,cond_false,Bool.true_and]
   unfold rowB
   by_cases e:((u.2.2.2.2.1[k]).length:Int)=u.2.2.1
   ·rw[qh4 e,decide_eq_true e,show wi ((u.2.2.2.2.1[k]).length:Int) 1 6=true by rw[e];exact qeK.2 hc]
    simp only[cond_false,Bool.and_true,Bool.true_and]
    cases shB (u.2.2.2.2.1[k])<;>rfl
   ·rw[qpd e,decide_eq_false e];rfl) (fun rec=>by
  rw[hz,qwa]
  simp only[qT,cond_false]) (n:=n) (by omega)
 have h':qe n (qkr n) ((0:Int),(u,()))=_:=h
 rw[h',qTx (fun x=>wi x 0 100000) (rowB u) _ _ he]
theorem qUk(n:Nat)(u:Uni)(hc:1≤u.2.2.1∧u.2.2.1≤6)(hl:u.2.2.2.2.2.2.1.length≤1000)(hn:2000≤n) :
  qe n (qnn n) ((0:Int),(u,()))=some (cond (u.2.2.2.2.2.2.1.all (qxj u)) (.inl (u,())) (.inr (110,()))):=by
 exact qzY (step:=qnn n) u.2.2.2.2.2.2.1 (fun k=>((k:Int),(u,()))) (qxj u) (.inl (u,())) (.inr (110,())) (fun rec k hk=>by
  rw[qwb]
  simp only[qN hk,cond_true,qZ _ hk,Option.bind_some,qQA n u _ (by omega),qw (show k<9223372036854775807 by omega)]
  unfold qxj
  cases qwd u (u.2.2.2.2.2.2.1[k]).1<;>cases qwd u (u.2.2.2.2.2.2.1[k]).2<;>rfl) (fun rec=>by
  rw[qwb]
  simp only[qT,cond_false]) (n:=n) (by omega)
theorem qUl(n:Nat)(u:Uni)(hc:1≤u.2.2.1∧u.2.2.1≤6)(he:u.2.2.2.1.length=u.1.1.length)(hl:u.2.2.2.2.2.2.2.1.length≤1000)(hf:u.2.2.2.1.length≤1000)(hn:2000≤n) :
  qe n (qno n) ((0:Int),(u,()))=some (cond (u.2.2.2.2.2.2.2.1.all (qBt u)) (.inl (u,())) (.inr (110,()))):=by
 exact qzY (step:=qno n) u.2.2.2.2.2.2.2.1 (fun k=>((k:Int),(u,()))) (qBt u) (.inl (u,())) (.inr (110,())) (fun rec k hk=>by
  rw[qwc]
  simp only[qN hk,cond_true,qZ _ hk,Option.bind_some,qQA n u _ (by omega),qpx,qw (show k<9223372036854775807 by omega),qfb (n:=iSub (u.2.2.2.1.length:Int) 1) (by unfold iSub;omega) (by unfold iSub;omega)]
  unfold qBt
  rw[← he]
  show _=cond (_&&(wi _ 0 (iSub (u.2.2.2.1.length:Int) 1)&&_)) _ _
  cases qwd u (u.2.2.2.2.2.2.2.1[k]).1<;>cases wi (u.2.2.2.2.2.2.2.1[k]).2.1 0 (iSub (u.2.2.2.1.length:Int) 1)<;>cases wi (u.2.2.2.2.2.2.2.1[k]).2.2 0 20<;>rfl) (fun rec=>by
  rw[qwc]
  simp only[qT,cond_false]) (n:=n) (by omega)
structure Small11 (u:Uni):Prop where
 hu:u.1.1.length≤20
 ln:u.2.1.length≤9∨(40<u.2.1.length∧u.2.1.length≤60)
 st:∀m,m∈u.2.1→m.2.2.2.2.length≤20
 fe:u.2.2.2.1.length≤20
 sh:u.2.2.2.2.1.length≤20
 rl:∀r,r∈u.2.2.2.2.1→r.length≤20
 gu:u.2.2.2.2.2.1.length≤42
 ri:u.2.2.2.2.2.2.1.length≤14
 wo:u.2.2.2.2.2.2.2.1.length≤22
theorem Small11.ms{u:Uni}(h:Small11 u):u.2.1.length≤60:=by rcases h.ln with h | h<;>omega
theorem Small11.near{u:Uni}(h:Small11 u):Near u.1 u.2.1:=⟨h.st,h.hu,h.ln⟩
theorem qKz(n:Nat)(u:Uni)(hs:Small11 u)(hn:5000≤n):qps n (u,())=some (chkU u,()):=by
 have a1:=hs.hu;have a2:=hs.ms;have a3:=hs.fe;have a4:=hs.sh;have a5:=hs.gu;have a6:=hs.ri;have a7:=hs.wo
 rw[qGF]
 have h0:=qWN n u.1 u.2.1 (by omega) (by omega) (fun m hm=>by have:=hs.st m hm;omega) (by omega)
 show Option.bind (qo7 n (u.1,(u.2.1,()))) _=_
 rw[h0,Option.bind_some]
 unfold chkU
 by_cases hk:chkN u.1 u.2.1=0
 ·rw[if_pos hk,qh4 hk]
  simp only[cond_false,qpx,Option.bind_some]
  unfold uniB
  cases hw:wi u.2.2.1 1 6 with
  | false=>rfl
  | true =>
   have hc:=qeK.1 hw
   simp only[Bool.not_true,cond_false,Bool.true_and]
   by_cases e1:u.2.2.2.1.length=u.1.1.length
   ·rw[qh4 (show (u.2.2.2.1.length:Int)=u.1.1.length by omega),decide_eq_true e1]
    simp only[cond_false,Bool.true_and]
    by_cases e2:u.2.2.2.2.1.length=u.1.1.length
    ·rw[qh4 (show (u.2.2.2.2.1.length:Int)=u.1.1.length by omega),decide_eq_true e2]
     simp only[cond_false,Bool.true_and]
     rw[qSm n u (by omega) (by omega) (by omega),Option.bind_some]
     cases hg:(qob u u.2.2.2.2.2.1&&decide (u.2.2.2.2.2.1.length≤40)) with
     | false =>
      rw[show ∀x y z:Bool,(x&&(y&&z))=((x&&y)&&z) from fun x y z=>(Bool.and_assoc x y z).symm,hg];rfl
     | true =>
      rw[show ∀x y z:Bool,(x&&(y&&z))=((x&&y)&&z) from fun x y z=>(Bool.and_assoc x y z).symm,hg]
      simp only[Bool.not_true,cond_false,Bool.true_and]
      by_cases e3:u.2.2.2.2.2.2.1.length≤12
      ·rw[show iGt (u.2.2.2.2.2.2.1.length:Int) 12=false from decide_eq_false (by omega),decide_eq_true e3]
       simp only[cond_false,Bool.true_and]
       by_cases e4:u.2.2.2.2.2.2.2.1.length≤20
       ·rw[show iGt (u.2.2.2.2.2.2.2.1.length:Int) 20=false from decide_eq_false (by omega),decide_eq_true e4]
        simp only[cond_false,Bool.true_and]
        rw[qUj n u hc (by omega) (by omega) (fun r hr=>by have:=hs.rl r hr;omega) (by omega),Option.bind_some]
        cases h5:(u.2.2.2.1.all (fun x=>wi x 0 100000)&&u.2.2.2.2.1.all (rowB u)) with
        | false =>
         rw[← Bool.and_assoc,h5];rfl
        | true =>
         rw[← Bool.and_assoc,h5]
         simp only[cond_true,Sum.elim_inl,Bool.true_and,qUk n u hc (by omega) (by omega),Option.bind_some]
         cases u.2.2.2.2.2.2.1.all (qxj u) with
         | false=>rfl
         | true =>
          simp only[cond_true,Sum.elim_inl,Bool.true_and,qUl n u hc e1 (by omega) (by omega) (by omega),Option.bind_some]
          cases u.2.2.2.2.2.2.2.1.all (qBt u) with
          | false=>rfl
          | true =>
           simp only[cond_true,Sum.elim_inl,Bool.true_and,qpx,Option.bind_some]
           cases wi u.2.2.2.2.2.2.2.2.1 0 100<;>cases wi u.2.2.2.2.2.2.2.2.2.1 0 100<;>cases wi u.2.2.2.2.2.2.2.2.2.2.1 0 100000<;>cases wi u.2.2.2.2.2.2.2.2.2.2.2 0 100000<;>rfl
       ·rw[show iGt (u.2.2.2.2.2.2.2.1.length:Int) 20=true from decide_eq_true (by omega),decide_eq_false e4];rfl
      ·rw[show iGt (u.2.2.2.2.2.2.1.length:Int) 12=true from decide_eq_true (by omega),decide_eq_false e3];rfl
    ·rw[qpd (show (u.2.2.2.2.1.length:Int)≠u.1.1.length by omega),decide_eq_false e2];rfl
   ·rw[qpd (show (u.2.2.2.1.length:Int)≠u.1.1.length by omega),decide_eq_false e1];rfl
 ·rw[if_neg hk,qpd hk];rfl
end Go.Proofs.YtklkodbibffohaaGreat
/- printed by gen_dc2.py. Clubs, plain: maps with numbers as keys; 'every'. -/
namespace Go.Proofs.YtklkodbibffohaaGreat
open Go Go.Proofs Go.RowKit
set_option maxHeartbeats 1000000
abbrev Cnt:=List (Int×Int)
def ql1(x:Int):Cnt→Int
 | []=>0
 | p::l=>if x=p.1 then p.2 else ql1 x l
def qBu(x:Int)(v:Int):Cnt→Cnt
 | []=>[(x,v)]
 | p::l=>if x=p.1 then (p.1,v)::l else p::qBu x v l
def qEP(x:Int):Cnt→Bool
 | []=>false
 | p::l=>if x=p.1 then true else qEP x l
def ixLK(x:Int):Cnt→Nat
 | []=>0
 | p::l=>if x=p.1 then 0 else ixLK x l+1
theorem eqK(a b:Int):Ty.eqB (Ty.i .i64) a b=decide (a=b):=by
 show (a==b)=_
 by_cases h:a=b<;>simp[h]
theorem qSn(x:Int):∀(l:Cnt) (i:Nat),mpAt (Ty.i .i64) x l i=if qEP x l then some (i+ixLK x l,ql1 x l) else none
 | [],_=>rfl
 | p::l,i=>by
  unfold qEP ixLK ql1
  show (match Ty.eqB (Ty.i .i64) x p.1 with
   | true=>some (i,p.2)
   | false=>mpAt (Ty.i .i64) x l (i+1))=_
  rw[show Ty.eqB (Ty.i .i64) x p.1=decide (x=p.1) from eqK x p.1]
  by_cases h:x=p.1
  ·rw[if_pos h,if_pos h,if_pos h,show decide (x=p.1)=true from decide_eq_true h]
   rfl
  ·rw[if_neg h,if_neg h,if_neg h,show decide (x=p.1)=false from decide_eq_false h]
   show mpAt (Ty.i .i64) x l (i+1)=_
   rw[qSn x l (i+1)]
   congr 2
   rw[show i+1+ixLK x l=i+(ixLK x l+1) by omega]
theorem qPP{x:Int}{v:Int}:∀{l:Cnt},qEP x l=false→ql1 x l=0∧qBu x v l=l++[(x,v)]∧ixLK x l=l.length
 | [],_=>⟨rfl,rfl,rfl⟩
 | p::l,h=>by
  unfold qEP at h
  split at h
  ·cases h
  ·rename_i hx
   obtain ⟨h1,h2,h3⟩:=qPP (v:=v) h
   unfold ql1 qBu ixLK
   rw[if_neg hx,if_neg hx,if_neg hx,h1,h2,h3]
   exact ⟨rfl,rfl,rfl⟩
theorem qSo{x:Int}{v:Int}:∀{l:Cnt},qEP x l=true→qre (ixLK x l) v l=qBu x v l∧ixLK x l<l.length
 | [],h=>by cases h
 | p::l,h=>by
  unfold qEP at h
  unfold ixLK qBu
  split at h
  ·rename_i hx
   rw[if_pos hx,if_pos hx]
   exact ⟨rfl,by simp⟩
  ·rename_i hx
   rw[if_neg hx,if_neg hx]
   obtain ⟨h1,h2⟩:=qSo (v:=v) h
   refine ⟨?_,by simp;omega⟩
   rw[← h1]
   simp[qre]
theorem qVv(x:Int)(l:Cnt):qjV (Ty.i .i64) (0:Int) x l=ql1 x l:=by
 unfold qjV
 rw[qSn x l 0]
 cases h:qEP x l with
 | true=>rfl
 | false=>exact (qPP (v:=0) h).1.symm
theorem qL3(x z:Int)(v:Int):∀(l:Cnt),ql1 z (qBu x v l)=if z=x then v else ql1 z l
 | []=>by simp[qBu,ql1]
 | p::l=>by
  unfold qBu
  split
  ·rename_i hx
   unfold ql1
   by_cases h:z=x
   ·rw[if_pos h,if_pos (by rw[h,hx])]
   ·rw[if_neg h,if_neg (by rw[← hx];exact h),if_neg (by rw[← hx];exact h)]
  ·rename_i hx
   unfold ql1
   by_cases h:z=p.1
   ·rw[if_pos h,if_pos h,if_neg (fun e=>hx (by rw[← e,h]))]
   ·rw[if_neg h,if_neg h,qL3 x z v l]
theorem qVw(x:Int)(v:Int)(l:Cnt):qxm (Ty.i .i64) v x l=qBu x v l:=by
 unfold qxm
 rw[qSn x l 0]
 cases h:qEP x l with
 | true =>
  show qre (0+ixLK x l) v l=_
  rw[Nat.zero_add]
  exact (qSo h).1
 | false=>exact (qPP (v:=v) h).2.1.symm
theorem qxD(n:Nat)(a lo hi:Int):qem n (a,(lo,(hi,())))=some (wi a lo hi,()):=by
 rw[qMS]
 show cond (iLe lo a) (some ((iLe a hi),())) (some (false,()))=_
 unfold wi iLe
 by_cases h:lo≤a
 ·rw[decide_eq_true h];rfl
 ·rw[decide_eq_false h];rfl
theorem qO1(n:Nat)(x:Int):qrF n (x,())=some (wi x 0 100,()):=by
 rw[qL0]
 show Option.bind (qem n (x,((0:Int),((100:Int),())))) _=_
 rw[qxD];rfl
theorem qVx(n:Nat)(x:Int):qyT n (x,())=some (wi x 0 100000,()):=by
 rw[qPN]
 show Option.bind (qem n (x,((0:Int),((100000:Int),())))) _=_
 rw[qxD];rfl
theorem qVy(n:Nat)(l:List Int)(p:Int→Bool)(hE:∀x,x∈l→qjS n (x,())=some (!p x,()))(hl:l.length≤1000)(hn:2000≤n):qkU n (l,(((),()),()))=some (l.all p,()):=by
 rw[qxB,qlG,qms]
 have h1:=qhv (step:=qdm n) l (fun k=>(l,((l.length:Int),((k:Int),())))) (fun x=>!p x) (fun k=>.inr ((k:Int),())) (.inl ()) (fun rec k hk=>by
  rw[qfI]
  simp only[qN hk,cond_true,qZ l hk,Option.bind_some,hE _ (List.getElem_mem hk),qw (show k<9223372036854775807 by omega)]) (fun rec=>by
  rw[qfI]
  simp only[qT,cond_false]) (n:=n) (by omega)
 rw[show l.all p = !l.any fun x=>!p x by simp[List.all_eq_not_any_not]]
 show Option.bind (Option.bind (Option.bind (qe n _ (l,((l.length:Int),(((0:Nat):Int),())))) _) _) _=_
 rcases h1 with ⟨h1,h2⟩ | ⟨k,hk,h1,_,h2⟩
 ·rw[h2,h1];rfl
 ·rw[h2,show (l.any fun x=>!p x)=true from List.any_eq_true.2 ⟨_,List.getElem_mem hk,h1⟩]
  show some (!iGe (k:Int) 0,())=_
  simp[iGe]
theorem qVz(n:Nat)(l:List Int)(p:Int→Bool)(hE:∀x,x∈l→qlX n (x,())=some (!p x,()))(hl:l.length≤1000)(hn:2000≤n):qmV n (l,(((),()),()))=some (l.all p,()):=by
 rw[qAi,qmG,qnH]
 have h1:=qhv (step:=qea n) l (fun k=>(l,((l.length:Int),((k:Int),())))) (fun x=>!p x) (fun k=>.inr ((k:Int),())) (.inl ()) (fun rec k hk=>by
  rw[qgR]
  simp only[qN hk,cond_true,qZ l hk,Option.bind_some,hE _ (List.getElem_mem hk),qw (show k<9223372036854775807 by omega)]) (fun rec=>by
  rw[qgR]
  simp only[qT,cond_false]) (n:=n) (by omega)
 rw[show l.all p = !l.any fun x=>!p x by simp[List.all_eq_not_any_not]]
 show Option.bind (Option.bind (Option.bind (qe n _ (l,((l.length:Int),(((0:Nat):Int),())))) _) _) _=_
 rcases h1 with ⟨h1,h2⟩ | ⟨k,hk,h1,_,h2⟩
 ·rw[h2,h1];rfl
 ·rw[h2,show (l.any fun x=>!p x)=true from List.any_eq_true.2 ⟨_,List.getElem_mem hk,h1⟩]
  show some (!iGe (k:Int) 0,())=_
  simp[iGe]
theorem qVA(n:Nat)(l:List (List Int))(st:Uni×Unit)(p:(List Int)→Bool)(hE:∀x,x∈l→qjT n (x,st)=some (!p x,st))(hl:l.length≤1000)(hn:2000≤n):qkV n (l,st)=some (l.all p,st):=by
 rw[qxC,qlH,qmt]
 have h1:=qhv (step:=qdn n) l (fun k=>(l,((l.length:Int),((k:Int),st)))) (fun x=>!p x) (fun k=>.inr ((k:Int),st)) (.inl st) (fun rec k hk=>by
  rw[qfJ]
  simp only[qN hk,cond_true,qZ l hk,Option.bind_some,hE _ (List.getElem_mem hk),qw (show k<9223372036854775807 by omega)]) (fun rec=>by
  rw[qfJ]
  simp only[qT,cond_false]) (n:=n) (by omega)
 rw[show l.all p = !l.any fun x=>!p x by simp[List.all_eq_not_any_not]]
 show Option.bind (Option.bind (Option.bind (qe n _ (l,((l.length:Int),(((0:Nat):Int),st)))) _) _) _=_
 rcases h1 with ⟨h1,h2⟩ | ⟨k,hk,h1,_,h2⟩
 ·rw[h2,h1];rfl
 ·rw[h2,show (l.any fun x=>!p x)=true from List.any_eq_true.2 ⟨_,List.getElem_mem hk,h1⟩]
  show some (!iGe (k:Int) 0,st)=_
  simp[iGe]
theorem qSS(n:Nat)(l:List qMp)(st:Uni×Unit)(p:qMp→Bool)(hE:∀x,x∈l→qeb n (x,st)=some (!p x,st))(hl:l.length≤1000)(hn:2000≤n):qeH n (l,st)=some (l.all p,st):=by
 rw[qnI,qgu,qhh]
 have h1:=qhv (step:=qbv n) l (fun k=>(l,((l.length:Int),((k:Int),st)))) (fun x=>!p x) (fun k=>.inr ((k:Int),st)) (.inl st) (fun rec k hk=>by
  rw[qcz]
  simp only[qN hk,cond_true,qZ l hk,Option.bind_some,hE _ (List.getElem_mem hk),qw (show k<9223372036854775807 by omega)]) (fun rec=>by
  rw[qcz]
  simp only[qT,cond_false]) (n:=n) (by omega)
 rw[show l.all p = !l.any fun x=>!p x by simp[List.all_eq_not_any_not]]
 show Option.bind (Option.bind (Option.bind (qe n _ (l,((l.length:Int),(((0:Nat):Int),st)))) _) _) _=_
 rcases h1 with ⟨h1,h2⟩ | ⟨k,hk,h1,_,h2⟩
 ·rw[h2,h1];rfl
 ·rw[h2,show (l.any fun x=>!p x)=true from List.any_eq_true.2 ⟨_,List.getElem_mem hk,h1⟩]
  show some (!iGe (k:Int) 0,st)=_
  simp[iGe]
theorem qUm(n:Nat)(l:List Work)(st:Uni×Unit)(p:Work→Bool)(hE:∀x,x∈l→qex n (x,st)=some (!p x,st))(hl:l.length≤1000)(hn:2000≤n):qeR n (l,st)=some (l.all p,st):=by
 rw[qnR,qgU,qhD]
 have h1:=qhv (step:=qbC n) l (fun k=>(l,((l.length:Int),((k:Int),st)))) (fun x=>!p x) (fun k=>.inr ((k:Int),st)) (.inl st) (fun rec k hk=>by
  rw[qcI]
  simp only[qN hk,cond_true,qZ l hk,Option.bind_some,hE _ (List.getElem_mem hk),qw (show k<9223372036854775807 by omega)]) (fun rec=>by
  rw[qcI]
  simp only[qT,cond_false]) (n:=n) (by omega)
 rw[show l.all p = !l.any fun x=>!p x by simp[List.all_eq_not_any_not]]
 show Option.bind (Option.bind (Option.bind (qe n _ (l,((l.length:Int),(((0:Nat):Int),st)))) _) _) _=_
 rcases h1 with ⟨h1,h2⟩ | ⟨k,hk,h1,_,h2⟩
 ·rw[h2,h1];rfl
 ·rw[h2,show (l.any fun x=>!p x)=true from List.any_eq_true.2 ⟨_,List.getElem_mem hk,h1⟩]
  show some (!iGe (k:Int) 0,st)=_
  simp[iGe]
theorem qUn(n:Nat)(l:List Int)(hl:l.length≤1000)(hn:2000≤n):qCK n (l,())=some (shB l,()):=by
 rw[qMT]
 have h:=qpc (step:=qzx n) l (fun k (b:Int)=>(l,(b,(l,((l.length:Int),((k:Int),())))))) (fun b x=>iW (iAdd b x)) 0 (fun b=>(l,(b,()))) (fun rec k b hk _=>by
  rw[qBS]
  simp only[qN hk,cond_true,qZ l hk,Option.bind_some,qw (show k<9223372036854775807 by omega)]) (fun rec b=>by
  rw[qBS]
  simp only[qT,cond_false]) (n:=n) (by omega)
 show Option.bind (qe n _ (l,((0:Int),(l,((l.length:Int),(((0:Nat):Int),())))))) _=_
 rw[h]
 simp only[Option.bind_some]
 rw[qVy n l (fun x=>wi x 0 100) (fun x _=>by
  rw[qwj,qO1];rfl) hl hn]
 unfold shB
 cases ha:l.all fun x=>wi x 0 100 with
 | false=>rfl
 | true =>
  have hb:∀x,x∈l→0≤x∧x≤100:=fun x hx=>qeK.1 (List.all_eq_true.1 ha x hx)
  have fs:∀(m:List Int) (b:Int),(∀x,x∈m→0≤x∧x≤100)→0≤b→b+100*m.length≤1000000→m.foldl (fun b x=>iW (iAdd b x)) b=b+m.sum:=by
   intro m
   induction m with
   | nil=>intro b _ _ _;simp
   | cons x m ih =>
    intro b hm h0 hb
    have hx:=hm x List.mem_cons_self
    simp only[List.length_cons] at hb
    rw[List.foldl_cons,qfb (by unfold iAdd;omega) (by unfold iAdd;omega),ih _ (fun y hy=>hm y (List.mem_cons_of_mem _ hy)) (by unfold iAdd;omega) (by unfold iAdd;omega)]
    unfold iAdd
    rw[List.sum_cons];omega
  simp only[Option.bind_some,cond_true,Bool.true_and]
  rw[fs l 0 hb (Int.le_refl _) (by omega),Int.zero_add]
  by_cases e:l.sum=100
  ·rw[qdp e,decide_eq_true e]
  ·rw[qhw e,decide_eq_false e]
theorem qQB(n:Nat)(u:Uni)(x:Int)(hc:-1000≤u.2.2.1∧u.2.2.1≤1000):qqq n (x,(u,()))=some (qwd u x,(u,())):=by
 rw[qKU]
 show Option.bind (qem n (x,((0:Int),(iW (iSub u.2.2.1 1),())))) _=_
 rw[qfb (by unfold iSub;omega) (by unfold iSub;omega),qxD]
 rfl
theorem qVB(n:Nat)(u:Uni)(r:List Int)(hl:r.length≤1000)(hn:2000≤n):qzy n (r,(u,()))=some (rowB u r,(u,())):=by
 rw[qKV]
 unfold rowB
 show cond (iEq (r.length:Int) u.2.2.1) _ _=_
 by_cases e:(r.length:Int)=u.2.2.1
 ·rw[qdp e,decide_eq_true e]
  simp only[cond_true,qUn n r hl hn,Option.bind_some,Bool.true_and]
 ·rw[qhw e,decide_eq_false e];rfl
theorem qVC(n:Nat)(u:Uni)(r:qMp)(hc:-1000≤u.2.2.1∧u.2.2.1≤1000):qlY n (r,(u,()))=some (qxj u r,(u,())):=by
 rw[qyV]
 simp only[qQB n u _ hc,Option.bind_some]
 unfold qxj
 cases qwd u r.1<;>rfl
theorem qVD(n:Nat)(u:Uni)(w:Work)(hc:-1000≤u.2.2.1∧u.2.2.1≤1000)(hh:u.1.1.length≤1000):qlZ n (w,(u,()))=some (qBt u w,(u,())):=by
 rw[qyW]
 simp only[qQB n u _ hc,Option.bind_some,qxD,qfb (n:=iSub (u.1.1.length:Int) 1) (by unfold iSub;omega) (by unfold iSub;omega)]
 unfold qBt
 show _=some (qwd u w.1&&(wi w.2.1 0 (iSub (u.1.1.length:Int) 1)&&wi w.2.2 0 20),(u,()))
 cases qwd u w.1<;>cases wi w.2.1 0 (iSub (u.1.1.length:Int) 1)<;>rfl
theorem qVE(n:Nat)(u:Uni)(g:quS)(m:Cnt)(hc:-1000≤u.2.2.1∧u.2.2.1≤1000)(hm:0≤ql1 g.1 m∧ql1 g.1 m≤1000):qzz n (g,(m,(u,())))=some (qxi u g&&decide (ql1 g.1 m=0),(qBu g.1 (ql1 g.1 m+1) m,(u,()))):=by
 rw[qKW]
 simp only[qxD,Option.bind_some,qVv,qVw,qL3,if_true,qfb (n:=iSub u.2.2.1 1) (by unfold iSub;omega) (by unfold iSub;omega),qfb (n:=iAdd (ql1 g.1 m) 1) (by unfold iAdd;omega) (by unfold iAdd;omega),show (Int.negSucc 0) = -1 from rfl]
 have hg:qxi u g=(wi g.1 0 99&&(wi g.2.1 (-1) (iSub u.2.2.1 1)&&wi g.2.2 0 20)):=rfl
 rw[hg]
 unfold iAdd
 by_cases e:ql1 g.1 m=0
 ·rw[qdp (show ql1 g.1 m+1=1 by omega),decide_eq_true e]
  cases wi g.1 0 99<;>cases wi g.2.1 (-1) (iSub u.2.2.1 1)<;>cases wi g.2.2 0 20<;>rfl
 ·rw[qhw (show ql1 g.1 m+1≠1 by omega),decide_eq_false e,Bool.and_false]
  cases wi g.1 0 99<;>rfl
end Go.Proofs.YtklkodbibffohaaGreat
/- Clubs, plain: the program's Check. -/
namespace Go.Proofs.YtklkodbibffohaaGreat
open Go Go.Proofs Go.RowKit
set_option maxHeartbeats 1000000
theorem qVF(n:Nat)(u:Uni)(l:List quS)(hc:-1000≤u.2.2.1∧u.2.2.1≤1000)(hl:l.length≤1000):∀(B A:List quS) (m:Cnt) (n':Nat),l=A++B→(A.map (·.1)).Nodup→(∀x,ql1 x m=if x∈A.map (·.1) then 1 else 0)→B.length<n' →
  ∃(m':Cnt) (j:Nat),qe n' (qcj n) (l,((l.length:Int),((A.length:Int),(m,(u,())))))=some (cond (B.all (qxi u)&&decide ((l.map (·.1)).Nodup)) (.inl (m',(u,()))) (.inr ((j:Int),(m',(u,()))))):=by
 intro B
 induction B with
 | nil =>
  intro A m n' hq hA hm hn'
  obtain ⟨n',rfl⟩:∃m,n'=m+1:=⟨n'-1,by omega⟩
  rw[List.append_nil] at hq
  refine ⟨m,0,?_⟩
  rw[ql,qen]
  simp only[hq,qT,cond_false,List.all_nil,Bool.true_and,decide_eq_true hA]
  rfl
 | cons x B ih =>
  intro A m n' hq hA hm hn'
  obtain ⟨n',rfl⟩:∃m,n'=m+1:=⟨n'-1,by omega⟩
  have hAl:A.length<l.length:=by rw[hq];simp
  have hx:l[A.length]?=some x:=by rw[hq];simp
  have hv:=hm x.1
  have hv2:0≤ql1 x.1 m∧ql1 x.1 m≤1000:=by rw[hv];split<;>omega
  rw[ql,qen]
  simp only[qN hAl,cond_true,qn3,hx,Option.bind_some,qtQ,qVE n u x m hc hv2]
  rw[List.all_cons]
  cases hg:qxi u x with
  | false=>exact ⟨_,A.length,rfl⟩
  | true =>
   simp only[Bool.true_and]
   by_cases e:x.1∈A.map (·.1)
   ·have hnd:¬(l.map (·.1)).Nodup:=fun hnd=>by
     rw[hq,List.map_append,List.map_cons,List.nodup_append] at hnd
     exact hnd.2.2 x.1 e x.1 List.mem_cons_self rfl
    rw[decide_eq_false hnd,Bool.and_false,hv,if_pos e]
    exact ⟨_,A.length,rfl⟩
   ·rw[if_neg e] at hv
    rw[hv]
    simp only[decide_true,Bool.not_true,cond_false,qw (show A.length<9223372036854775807 by omega)]
    have:=ih (A++[x]) (qBu x.1 (0+1) m) n' (by rw[hq];simp) (by
     rw[List.map_append,List.nodup_append]
     refine ⟨hA,by simp,fun a ha b hb=>?_⟩
     simp only[List.map_cons,List.map_nil,List.mem_singleton] at hb
     subst hb
     exact fun h=>e (h ▸ ha)) (fun z=>by
     rw[qL3,hm z]
     by_cases hz:z=x.1
     ·rw[if_pos hz,if_pos (by rw[hz];simp)];rfl
     ·rw[if_neg hz]
      by_cases hz2:z∈A.map (·.1)
      ·rw[if_pos hz2,if_pos (by rw[List.map_append];exact List.mem_append_left _ hz2)]
      ·rw[if_neg hz2,if_neg (by
        rw[List.map_append]
        intro h
        rcases List.mem_append.1 h with h | h
        ·exact hz2 h
        ·simp only[List.map_cons,List.map_nil,List.mem_singleton] at h;exact hz h)]) (by simp at hn';omega)
    rw[List.length_append,List.length_cons,List.length_nil,Nat.zero_add] at this
    exact this
theorem qSp(n:Nat)(u:Uni)(l:List quS)(hc:-1000≤u.2.2.1∧u.2.2.1≤1000)(hl:l.length≤1000)(hn:2000≤n):∃m',qiC n (l,([],(u,())))=some (qob u l,(m',(u,()))):=by
 rw[quR,qjj,qjU]
 obtain ⟨m',j,h⟩:=qVF n u l hc hl l [] [] n rfl List.nodup_nil (fun x=>by simp[ql1]) (by omega)
 refine ⟨m',?_⟩
 show Option.bind (Option.bind (Option.bind (qe n _ (l,((l.length:Int),((([]:List quS).length:Int),([],(u,())))))) _) _) _=_
 rw[h]
 unfold qob
 cases l.all (qxi u)&&decide ((l.map (·.1)).Nodup) with
 | true=>rfl
 | false =>
  show some (!iGe (j:Int) 0,(m',(u,())))=_
  rw[show iGe (j:Int) 0=true from decide_eq_true (by omega)]
  rfl
theorem qVG(n:Nat)(u:Uni)(hs:Small11 u)(hn:5000≤n):qD1 n (u,())=some (chkU u,()):=by
 have a1:=hs.hu;have a2:=hs.ms;have a3:=hs.fe;have a4:=hs.sh;have a5:=hs.gu;have a6:=hs.ri;have a7:=hs.wo
 rw[qNV]
 show Option.bind (qto n (u.1,(u.2.1,()))) _=_
 rw[qVu n u.1 u.2.1 hs.near (by omega),Option.bind_some]
 unfold chkU
 by_cases hk:chkN u.1 u.2.1=0
 ·rw[if_pos hk,qh4 hk]
  simp only[cond_false,qxD,Option.bind_some]
  unfold uniB
  cases hw:wi u.2.2.1 1 6 with
  | false=>rfl
  | true =>
   have hc:=qeK.1 hw
   simp only[Bool.not_true,cond_false,Bool.true_and]
   by_cases e1:u.2.2.2.1.length=u.1.1.length
   ·rw[qh4 (show (u.2.2.2.1.length:Int)=u.1.1.length by omega),decide_eq_true e1]
    simp only[cond_false,Bool.true_and]
    rw[qVz n u.2.2.2.1 (fun x=>wi x 0 100000) (fun x _=>by rw[qyU,qVx];rfl) (by omega) (by omega),Option.bind_some]
    by_cases e2:u.2.2.2.2.1.length=u.1.1.length
    ·rw[qh4 (show (u.2.2.2.2.1.length:Int)=u.1.1.length by omega),decide_eq_true e2]
     simp only[cond_false,Bool.true_and]
     rw[qVA n u.2.2.2.2.1 (u,()) (rowB u) (fun r hr=>by rw[qwk,qVB n u r (by have:=hs.rl r hr;omega) (by omega)];rfl) (by omega) (by omega)]
     simp only[Option.bind_some]
     obtain ⟨m',hg⟩:=qSp n u u.2.2.2.2.2.1 (by omega) (by omega) (by omega)
     rw[hg]
     simp only[Option.bind_some]
     rw[qSS n u.2.2.2.2.2.2.1 (u,()) (qxj u) (fun r _=>by rw[qmW,qVC n u r (by omega)];rfl) (by omega) (by omega)]
     simp only[Option.bind_some]
     rw[qUm n u.2.2.2.2.2.2.2.1 (u,()) (qBt u) (fun w _=>by rw[qnl,qVD n u w (by omega) (by omega)];rfl) (by omega) (by omega)]
     simp only[Option.bind_some,qO1,qVx]
     by_cases e3:u.2.2.2.2.2.1.length≤40
     ·by_cases e4:u.2.2.2.2.2.2.1.length≤12
      ·by_cases e5:u.2.2.2.2.2.2.2.1.length≤20
       ·rw[show iGt (u.2.2.2.2.2.1.length:Int) 40=false from decide_eq_false (by omega),show iGt (u.2.2.2.2.2.2.1.length:Int) 12=false from decide_eq_false (by omega),show iGt (u.2.2.2.2.2.2.2.1.length:Int) 20=false from decide_eq_false (by omega),decide_eq_true e3,decide_eq_true e4,decide_eq_true e5]
        cases u.2.2.2.1.all (fun x=>wi x 0 100000) with
        | false=>cases qob u u.2.2.2.2.2.1<;>rfl
        | true =>
         cases u.2.2.2.2.1.all (rowB u) with
         | false=>cases qob u u.2.2.2.2.2.1<;>rfl
         | true =>
          cases qob u u.2.2.2.2.2.1 with
          | false=>rfl
          | true =>
           cases u.2.2.2.2.2.2.1.all (qxj u) with
           | false=>rfl
           | true =>
            cases u.2.2.2.2.2.2.2.1.all (qBt u) with
            | false=>rfl
            | true =>
             cases wi u.2.2.2.2.2.2.2.2.1 0 100<;>cases wi u.2.2.2.2.2.2.2.2.2.1 0 100<;>cases wi u.2.2.2.2.2.2.2.2.2.2.1 0 100000<;>cases wi u.2.2.2.2.2.2.2.2.2.2.2 0 100000<;>rfl
       ·rw[show iGt (u.2.2.2.2.2.2.2.1.length:Int) 20=true from decide_eq_true (by omega),decide_eq_false e5]
        cases u.2.2.2.1.all (fun x=>wi x 0 100000)<;>cases u.2.2.2.2.1.all (rowB u)<;>cases iGt (u.2.2.2.2.2.1.length:Int) 40<;>cases qob u u.2.2.2.2.2.1<;>cases iGt (u.2.2.2.2.2.2.1.length:Int) 12<;>cases decide (u.2.2.2.2.2.1.length≤40)<;>cases decide (u.2.2.2.2.2.2.1.length≤12)<;>cases u.2.2.2.2.2.2.1.all (qxj u)<;>rfl
      ·rw[show iGt (u.2.2.2.2.2.2.1.length:Int) 12=true from decide_eq_true (by omega),decide_eq_false e4]
       cases u.2.2.2.1.all (fun x=>wi x 0 100000)<;>cases u.2.2.2.2.1.all (rowB u)<;>cases iGt (u.2.2.2.2.2.1.length:Int) 40<;>cases qob u u.2.2.2.2.2.1<;>cases decide (u.2.2.2.2.2.1.length≤40)<;>rfl
     ·rw[show iGt (u.2.2.2.2.2.1.length:Int) 40=true from decide_eq_true (by omega),decide_eq_false e3]
      cases u.2.2.2.1.all (fun x=>wi x 0 100000)<;>cases u.2.2.2.2.1.all (rowB u)<;>cases qob u u.2.2.2.2.2.1<;>rfl
    ·rw[qpd (show (u.2.2.2.2.1.length:Int)≠u.1.1.length by omega),decide_eq_false e2]
     cases u.2.2.2.1.all (fun x=>wi x 0 100000)<;>rfl
   ·rw[qpd (show (u.2.2.2.1.length:Int)≠u.1.1.length by omega),decide_eq_false e1];rfl
 ·rw[if_neg hk,qpd hk];rfl
end Go.Proofs.YtklkodbibffohaaGreat
